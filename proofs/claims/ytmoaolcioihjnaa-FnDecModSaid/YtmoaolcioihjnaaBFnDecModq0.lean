-- laid by a program of this session (wip/tools) out of the translation; Lean checks it
import Derived.Test.YtmoaolcioihjnaaProg
import Derived.Test.YtmoaolcioihjnaaBFnDecModX
import Derived.Below
import Derived.Deep.Draws
import Derived.Deep.AppendLies
import Derived.Maps.AppendAt
import Derived.OwnWalk
import Derived.Laws.BytesArg
import Derived.Laws.MakeOwn
import Derived.Laws.OwnMore
import Derived.Deep.OwnRows
import Derived.Tactics
import Derived.Lib.ConvBytes
import Derived.Laws.Slices
import Derived.WalkKit
import Derived.KernelRfl
import Derived.RowKit3
import Derived.Deep.LoopGhost
import Derived.Deep.QuietTactic
import Derived.BigQuiet
import Derived.WideLaws
import Derived.Deep.DeepCutAuto
import Derived.Deep.CutBlock
import Derived.Deep.RegionHeld3
import Derived.Laws.Rows
import Derived.Lib.AppendStr
import Derived.ArgAppend
import Derived.Laws.IdiomCopy
import Derived.OrdersHeld
import Derived.Laws.BitsLemmas
import Derived.RowKit
import Derived.Test.YtmoaolcioihjnaaBFnDecModWWords
import Derived.Test.YtmoaolcioihjnaaBFnDecModWLast
import Derived.Test.YtmoaolcioihjnaaBFnDecModWTab
import Derived.Test.YtmoaolcioihjnaaBFnDecModWFour
import Derived.Test.YtmoaolcioihjnaaBFnDecModWQPut
import Derived.Test.YtmoaolcioihjnaaBFnDecModWApart
import Derived.Test.YtmoaolcioihjnaaBFnDecModWArr
import Derived.Test.YtmoaolcioihjnaaBFnDecModWZeros
import Derived.Test.YtmoaolcioihjnaaBFnDecModWFoot
import Derived.Test.YtmoaolcioihjnaaBFnDecModWKept
import Derived.Test.YtmoaolcioihjnaaBFnDecModWShare
import Derived.Test.YtmoaolcioihjnaaBFnDecModWN
import Derived.Test.YtmoaolcioihjnaaBFnDecModWFootNe
import Derived.Test.YtmoaolcioihjnaaBFnDecModWAt
import Derived.Test.YtmoaolcioihjnaaBFnDecModWEqStruct
import Derived.Test.YtmoaolcioihjnaaBFnDecModWRepsOne
import Derived.Test.YtmoaolcioihjnaaBFnDecModWInv
import Derived.Test.YtmoaolcioihjnaaBFnDecModWInvWords
import Derived.Test.YtmoaolcioihjnaaBFnDecModWGuard
import Derived.Test.YtmoaolcioihjnaaBFnDecModWNEv
import Derived.Test.YtmoaolcioihjnaaBFnDecModWMore
namespace Go.Proofs.Ytmoaolcioihjnaa.Q
open Go.RowKit Go.Proofs.YtmoaolcioihjnaaW.PrintWords Go.Proofs.YtmoaolcioihjnaaW.PrintLast Go.Proofs.YtmoaolcioihjnaaW.PrintMore Go.Proofs.YtmoaolcioihjnaaX
attribute [local go_sem] max2_int min2_int max_two min_two max_three min_three max_four min_four   -- for this text's walks alone
set_option linter.unusedVariables false
set_option linter.unusedSimpArgs false



abbrev zA := @Aside0.mk
abbrev zB := @blk_drewN
abbrev zC := @blk_alloc
abbrev zD := @blk_drew
abbrev zE := @pw_below_drewN
abbrev zF := @below_drew1
abbrev zG := @below_alloc
abbrev zH := @below_set
abbrev zJ := @blk_cell
abbrev zK := @blk_frozen
abbrev zL := @List.setIfInBounds_toArray
abbrev zM := @List.set_cons_zero
abbrev zN := @List.set_cons_succ
abbrev zP := @blk_below
abbrev zQ := @below_step
abbrev zR := @below_size
abbrev zS := @gate_dst
abbrev zT := @gate_callee
abbrev zV := @box_event
abbrev zW := @List.map_toArray
abbrev zX := @List.length_drop
abbrev zZ := @List.length_take
abbrev yA := @List.map_cons
abbrev yB := @List.map_nil
def errW : Option Int → Value
 | none => .nilIface
 | some c => .iface 0 (.int .i64 c)
theorem errW_none : errW none = .nilIface := rfl
theorem errW_some (c : Int) : errW (some c) = .iface 0 (.int .i64 c) := rfl

theorem info3 : (Try.prog.info? 3).map (fun i => (i.zero, i.size, i.bytes)) = some (some (.int .i64 0), 1, 8) := by kernel_rfl
theorem info5 : (Try.prog.info? 5).map (fun i => (i.zero, i.size, i.bytes)) = some (some (.int .u8 0), 1, 1) := by kernel_rfl
theorem info9 : (Try.prog.info? 9).map (fun i => (i.zero, i.size, i.bytes)) = some (some (.string ⟨#[]⟩), 1, 16) := by kernel_rfl
-- the values' own types

end Go.Proofs.Ytmoaolcioihjnaa.Q

namespace Go.Proofs.Ytmoaolcioihjnaa.Q
open Go.RowKit Go.Proofs.YtmoaolcioihjnaaW.PrintWords Go.Proofs.YtmoaolcioihjnaaW.PrintLast Go.Proofs.YtmoaolcioihjnaaW.PrintMore Go.Proofs.YtmoaolcioihjnaaX
attribute [local go_sem] max2_int min2_int max_two min_two max_three min_three max_four min_four   -- for this text's walks alone
set_option linter.unusedVariables false
set_option linter.unusedSimpArgs false

theorem eqA26 (d : Nat) (w : World) (x0 y0 : Int) (x1 y1 : Int) :
  (Op.equalIn (d + 2) 26 (.agg #[.int .i64 x0, .int .i64 x1]) (.agg #[.int .i64 y0, .int .i64 y1])).run Try.prog w = .ok (x0 == y0 && (x1 == y1)) w := by
 refine eqA_of Try.underlying26 (by kernel_rfl) ?_
 refine eqf_cons (by rfl) (by go_simp; rfl) (by go_simp; rfl) (by go_simp) ?_
 exact eqf_last (by rfl) (by go_simp; rfl) (by go_simp; rfl) (by go_simp)
end Go.Proofs.Ytmoaolcioihjnaa.Q

namespace Go.Proofs.Ytmoaolcioihjnaa.Q
open Go.RowKit Go.Proofs.YtmoaolcioihjnaaW.PrintWords Go.Proofs.YtmoaolcioihjnaaW.PrintLast Go.Proofs.YtmoaolcioihjnaaW.PrintMore Go.Proofs.YtmoaolcioihjnaaX
attribute [local go_sem] max2_int min2_int max_two min_two max_three min_three max_four min_four   -- for this text's walks alone
set_option linter.unusedVariables false
set_option linter.unusedSimpArgs false

attribute [local go_sem high] eqA26
def impl_DecOk.f (a0_0 : Int) (a0_1 : Int) : Option (Bool) := if (-99999999) ≤ a0_0 then (if a0_0 ≤ 99999999 then (if (-8) ≤ a0_1 then (if a0_1 ≤ 8 then (if (Int.tmod a0_0 10) = 0 then (some (a0_0 == 0 && (a0_1 == 0))) else (some true)) else (some false)) else (some false)) else (some false)) else (some false)
set_option maxHeartbeats 8000000 in
set_option maxRecDepth 100000 in
theorem impl_DecOk.calls (a0_0 : Int) (a0_1 : Int) (r : Bool) (w : World) (h : impl_DecOk.f a0_0 a0_1 = some r) :
  Calls Try.prog 16 #[.agg #[.int .i64 a0_0, .int .i64 a0_1]] w fun e w' => e = .returned (.bool r) ∧ Below w.heap.size w w' := by
 have hu26 := Try.underlying26
 have HB := zA (Below.refl w.heap.size w)
 have H : (if (-99999999) ≤ a0_0 then (if a0_0 ≤ 99999999 then (if (-8) ≤ a0_1 then (if a0_1 ≤ 8 then (if (Int.tmod a0_0 10) = 0 then (some (a0_0 == 0 && (a0_1 == 0))) else (some true)) else (some false)) else (some false)) else (some false)) else (some false)) = some r := h
 clear h
 by_cases c2 : (-99999999) ≤ a0_0
 ·rw [if_pos c2] at H
  have c2b0 : decide ((-99999999) ≤ a0_0) = true := decide_eq_true c2
  clear c2
  by_cases c3 : a0_0 ≤ 99999999
  ·rw [if_pos c3] at H
   have c3b0 : decide (a0_0 ≤ 99999999) = true := decide_eq_true c3
   clear c3
   by_cases c4 : (-8) ≤ a0_1
   ·rw [if_pos c4] at H
    have c4b0 : decide ((-8) ≤ a0_1) = true := decide_eq_true c4
    clear c4
    by_cases c5 : a0_1 ≤ 8
    ·rw [if_pos c5] at H
     have c5b0 : decide (a0_1 ≤ 8) = true := decide_eq_true c5
     clear c5
     by_cases c6 : (Int.tmod a0_0 10) = 0
     ·rw [if_pos c6] at H
      have c6b0 : ((Int.tmod a0_0 10) == 0) = true := beq_iff_eq.mpr c6
      have c6b1 : ((Int.tmod a0_0 10) != 0) = false := bne_eq_false_iff_eq.mpr c6
      clear c6
      obtain rfl := Option.some.inj H
      go_enter Try.func16, Try.ntmps16
      go_wp2_with (first | ((with_reducible refine zS (N := 1) rfl ?_); refine zV ?hg (N := 1) ?hd (cs := #[.int .i64 a0_0, .int .i64 a0_1]) (t := 26) ?hr ?_; (case hd => rfl); (case hg => rfl); (case hr => first | (go_simp; done) | (go_simp; rfl)); intro gb125 hg w7 hbox hb; have n0_ := zA (zQ (by repeat (first | (with_reducible first | exact HB.out | apply zG | apply zE | apply zF) | exact HB.out)) hb); have n1_ := zA (hbox); have n2_ := zA ((by rw [hg]; exact (zR (by repeat (first | (with_reducible first | exact HB.out | apply zG | apply zE | apply zF) | exact HB.out))) : w.heap.size ≤ gb125)); have n3_ := zA ((by rw [hg]; exact (zR (by repeat (first | (with_reducible first | exact HB.out | apply zG | apply zE | apply zF) | exact HB.out))) : w.heap.size ≤ gb125)); clear HB; have HB := n0_; have BK125 := n1_; have GW125 := n2_; have GE125 := n3_; clear n0_ n1_ n2_ n3_; clear hb hbox hg; have hcz8_0 : w7.cell? ⟨gb125, 0, none⟩ = some (.int .i64 a0_0) := (zJ BK125.out 0).trans rfl; have hcz8_1 : w7.cell? ⟨gb125, 1, none⟩ = some (.int .i64 a0_1) := (zJ BK125.out 1).trans rfl; have hfz8_0 := zK BK125.out 0; have hfz8_1 := zK BK125.out 1))
      go_ret
      exact ⟨by first | rfl | (simp [errW_none, errW_some] <;> rfl) | (simp [*, errW_none, errW_some] <;> rfl), by repeat (first | (with_reducible first | exact HB.out | apply zG | apply zE | apply zF | refine zH ?_ GE125.out) | exact HB.out)⟩
     ·rw [if_neg c6] at H
      have c6b0 : ((Int.tmod a0_0 10) == 0) = false := beq_eq_false_iff_ne.mpr c6
      have c6b1 : ((Int.tmod a0_0 10) != 0) = true := bne_iff_ne.mpr c6
      obtain rfl := Option.some.inj H
      go_enter Try.func16, Try.ntmps16
      go_wp2_with (first | ((with_reducible refine zS (N := 1) rfl ?_); refine zV ?hg (N := 1) ?hd (cs := #[.int .i64 a0_0, .int .i64 a0_1]) (t := 26) ?hr ?_; (case hd => rfl); (case hg => rfl); (case hr => first | (go_simp; done) | (go_simp; rfl)); intro gb125 hg w9 hbox hb; have n0_ := zA (zQ (by repeat (first | (with_reducible first | exact HB.out | apply zG | apply zE | apply zF) | exact HB.out)) hb); have n1_ := zA (hbox); have n2_ := zA ((by rw [hg]; exact (zR (by repeat (first | (with_reducible first | exact HB.out | apply zG | apply zE | apply zF) | exact HB.out))) : w.heap.size ≤ gb125)); have n3_ := zA ((by rw [hg]; exact (zR (by repeat (first | (with_reducible first | exact HB.out | apply zG | apply zE | apply zF) | exact HB.out))) : w.heap.size ≤ gb125)); clear HB; have HB := n0_; have BK125 := n1_; have GW125 := n2_; have GE125 := n3_; clear n0_ n1_ n2_ n3_; clear hb hbox hg; have hcz10_0 : w9.cell? ⟨gb125, 0, none⟩ = some (.int .i64 a0_0) := (zJ BK125.out 0).trans rfl; have hcz10_1 : w9.cell? ⟨gb125, 1, none⟩ = some (.int .i64 a0_1) := (zJ BK125.out 1).trans rfl; have hfz10_0 := zK BK125.out 0; have hfz10_1 := zK BK125.out 1))
      go_ret
      exact ⟨by first | rfl | (simp [errW_none, errW_some] <;> rfl) | (simp [*, errW_none, errW_some] <;> rfl), by repeat (first | (with_reducible first | exact HB.out | apply zG | apply zE | apply zF | refine zH ?_ GE125.out) | exact HB.out)⟩
    ·rw [if_neg c5] at H
     have c5b0 : decide (a0_1 ≤ 8) = false := decide_eq_false c5
     clear c5
     obtain rfl := Option.some.inj H
     go_enter Try.func16, Try.ntmps16
     go_wp2_with (first | ((with_reducible refine zS (N := 1) rfl ?_); refine zV ?hg (N := 1) ?hd (cs := #[.int .i64 a0_0, .int .i64 a0_1]) (t := 26) ?hr ?_; (case hd => rfl); (case hg => rfl); (case hr => first | (go_simp; done) | (go_simp; rfl)); intro gb125 hg w11 hbox hb; have n0_ := zA (zQ (by repeat (first | (with_reducible first | exact HB.out | apply zG | apply zE | apply zF) | exact HB.out)) hb); have n1_ := zA (hbox); have n2_ := zA ((by rw [hg]; exact (zR (by repeat (first | (with_reducible first | exact HB.out | apply zG | apply zE | apply zF) | exact HB.out))) : w.heap.size ≤ gb125)); have n3_ := zA ((by rw [hg]; exact (zR (by repeat (first | (with_reducible first | exact HB.out | apply zG | apply zE | apply zF) | exact HB.out))) : w.heap.size ≤ gb125)); clear HB; have HB := n0_; have BK125 := n1_; have GW125 := n2_; have GE125 := n3_; clear n0_ n1_ n2_ n3_; clear hb hbox hg; have hcz12_0 : w11.cell? ⟨gb125, 0, none⟩ = some (.int .i64 a0_0) := (zJ BK125.out 0).trans rfl; have hcz12_1 : w11.cell? ⟨gb125, 1, none⟩ = some (.int .i64 a0_1) := (zJ BK125.out 1).trans rfl; have hfz12_0 := zK BK125.out 0; have hfz12_1 := zK BK125.out 1))
     go_ret
     exact ⟨by first | rfl | (simp [errW_none, errW_some] <;> rfl) | (simp [*, errW_none, errW_some] <;> rfl), by repeat (first | (with_reducible first | exact HB.out | apply zG | apply zE | apply zF | refine zH ?_ GE125.out) | exact HB.out)⟩
   ·rw [if_neg c4] at H
    have c4b0 : decide ((-8) ≤ a0_1) = false := decide_eq_false c4
    clear c4
    obtain rfl := Option.some.inj H
    go_enter Try.func16, Try.ntmps16
    go_wp2_with (first | ((with_reducible refine zS (N := 1) rfl ?_); refine zV ?hg (N := 1) ?hd (cs := #[.int .i64 a0_0, .int .i64 a0_1]) (t := 26) ?hr ?_; (case hd => rfl); (case hg => rfl); (case hr => first | (go_simp; done) | (go_simp; rfl)); intro gb125 hg w13 hbox hb; have n0_ := zA (zQ (by repeat (first | (with_reducible first | exact HB.out | apply zG | apply zE | apply zF) | exact HB.out)) hb); have n1_ := zA (hbox); have n2_ := zA ((by rw [hg]; exact (zR (by repeat (first | (with_reducible first | exact HB.out | apply zG | apply zE | apply zF) | exact HB.out))) : w.heap.size ≤ gb125)); have n3_ := zA ((by rw [hg]; exact (zR (by repeat (first | (with_reducible first | exact HB.out | apply zG | apply zE | apply zF) | exact HB.out))) : w.heap.size ≤ gb125)); clear HB; have HB := n0_; have BK125 := n1_; have GW125 := n2_; have GE125 := n3_; clear n0_ n1_ n2_ n3_; clear hb hbox hg; have hcz14_0 : w13.cell? ⟨gb125, 0, none⟩ = some (.int .i64 a0_0) := (zJ BK125.out 0).trans rfl; have hcz14_1 : w13.cell? ⟨gb125, 1, none⟩ = some (.int .i64 a0_1) := (zJ BK125.out 1).trans rfl; have hfz14_0 := zK BK125.out 0; have hfz14_1 := zK BK125.out 1))
    go_ret
    exact ⟨by first | rfl | (simp [errW_none, errW_some] <;> rfl) | (simp [*, errW_none, errW_some] <;> rfl), by repeat (first | (with_reducible first | exact HB.out | apply zG | apply zE | apply zF | refine zH ?_ GE125.out) | exact HB.out)⟩
  ·rw [if_neg c3] at H
   have c3b0 : decide (a0_0 ≤ 99999999) = false := decide_eq_false c3
   clear c3
   obtain rfl := Option.some.inj H
   go_enter Try.func16, Try.ntmps16
   go_wp2_with (first | ((with_reducible refine zS (N := 1) rfl ?_); refine zV ?hg (N := 1) ?hd (cs := #[.int .i64 a0_0, .int .i64 a0_1]) (t := 26) ?hr ?_; (case hd => rfl); (case hg => rfl); (case hr => first | (go_simp; done) | (go_simp; rfl)); intro gb125 hg w15 hbox hb; have n0_ := zA (zQ (by repeat (first | (with_reducible first | exact HB.out | apply zG | apply zE | apply zF) | exact HB.out)) hb); have n1_ := zA (hbox); have n2_ := zA ((by rw [hg]; exact (zR (by repeat (first | (with_reducible first | exact HB.out | apply zG | apply zE | apply zF) | exact HB.out))) : w.heap.size ≤ gb125)); have n3_ := zA ((by rw [hg]; exact (zR (by repeat (first | (with_reducible first | exact HB.out | apply zG | apply zE | apply zF) | exact HB.out))) : w.heap.size ≤ gb125)); clear HB; have HB := n0_; have BK125 := n1_; have GW125 := n2_; have GE125 := n3_; clear n0_ n1_ n2_ n3_; clear hb hbox hg; have hcz16_0 : w15.cell? ⟨gb125, 0, none⟩ = some (.int .i64 a0_0) := (zJ BK125.out 0).trans rfl; have hcz16_1 : w15.cell? ⟨gb125, 1, none⟩ = some (.int .i64 a0_1) := (zJ BK125.out 1).trans rfl; have hfz16_0 := zK BK125.out 0; have hfz16_1 := zK BK125.out 1))
   go_ret
   exact ⟨by first | rfl | (simp [errW_none, errW_some] <;> rfl) | (simp [*, errW_none, errW_some] <;> rfl), by repeat (first | (with_reducible first | exact HB.out | apply zG | apply zE | apply zF | refine zH ?_ GE125.out) | exact HB.out)⟩
 ·rw [if_neg c2] at H
  have c2b0 : decide ((-99999999) ≤ a0_0) = false := decide_eq_false c2
  clear c2
  obtain rfl := Option.some.inj H
  go_enter Try.func16, Try.ntmps16
  go_wp2_with (first | ((with_reducible refine zS (N := 1) rfl ?_); refine zV ?hg (N := 1) ?hd (cs := #[.int .i64 a0_0, .int .i64 a0_1]) (t := 26) ?hr ?_; (case hd => rfl); (case hg => rfl); (case hr => first | (go_simp; done) | (go_simp; rfl)); intro gb125 hg w17 hbox hb; have n0_ := zA (zQ (by repeat (first | (with_reducible first | exact HB.out | apply zG | apply zE | apply zF) | exact HB.out)) hb); have n1_ := zA (hbox); have n2_ := zA ((by rw [hg]; exact (zR (by repeat (first | (with_reducible first | exact HB.out | apply zG | apply zE | apply zF) | exact HB.out))) : w.heap.size ≤ gb125)); have n3_ := zA ((by rw [hg]; exact (zR (by repeat (first | (with_reducible first | exact HB.out | apply zG | apply zE | apply zF) | exact HB.out))) : w.heap.size ≤ gb125)); clear HB; have HB := n0_; have BK125 := n1_; have GW125 := n2_; have GE125 := n3_; clear n0_ n1_ n2_ n3_; clear hb hbox hg; have hcz18_0 : w17.cell? ⟨gb125, 0, none⟩ = some (.int .i64 a0_0) := (zJ BK125.out 0).trans rfl; have hcz18_1 : w17.cell? ⟨gb125, 1, none⟩ = some (.int .i64 a0_1) := (zJ BK125.out 1).trans rfl; have hfz18_0 := zK BK125.out 0; have hfz18_1 := zK BK125.out 1))
  go_ret
  exact ⟨by first | rfl | (simp [errW_none, errW_some] <;> rfl) | (simp [*, errW_none, errW_some] <;> rfl), by repeat (first | (with_reducible first | exact HB.out | apply zG | apply zE | apply zF | refine zH ?_ GE125.out) | exact HB.out)⟩

end Go.Proofs.Ytmoaolcioihjnaa.Q

namespace Go.Proofs.Ytmoaolcioihjnaa.Q
open Go.RowKit Go.Proofs.YtmoaolcioihjnaaW.PrintWords Go.Proofs.YtmoaolcioihjnaaW.PrintLast Go.Proofs.YtmoaolcioihjnaaW.PrintMore Go.Proofs.YtmoaolcioihjnaaX
attribute [local go_sem] max2_int min2_int max_two min_two max_three min_three max_four min_four   -- for this text's walks alone
set_option linter.unusedVariables false
set_option linter.unusedSimpArgs false

def impl_tens.l0 : Nat → Int → Int → Int → Option (Int)
 | 0, _, _, _ => none
 | k + 1, x3, x4, x5 => if x5 < x4 then (impl_tens.l0 k (wrap64 (x3 * 10)) x4 (wrap64 (x5 + 1))) else (some x3)
def impl_tens.f (k : Nat) (a0 : Int) : Option (Int) := impl_tens.l0 k 1 a0 0
theorem impl_tens.mono_l : ∀ k, (∀ y0 y1 y2, LeO (impl_tens.l0 k y0 y1 y2) (impl_tens.l0 (k + 1) y0 y1 y2))
 | 0 => fun _ _ _ r h => by simp [impl_tens.l0] at h
 | k + 1 => by
  have ih0 := impl_tens.mono_l k
  ·intro y0 y1 y2
   unfold impl_tens.l0
   repeat' first
   | (with_reducible exact ih0 _ _ _)
   | (with_reducible exact LeO.refl _)
   | (with_reducible exact LeO.none _)
   | (with_reducible refine LeO.ite ?_ ?_)
   | (with_reducible refine LeO.bind ?_ (fun _ => ?_))
   | exact ih0 _ _ _
   | exact LeO.none _
   | refine LeO.ite ?_ ?_
   | refine LeO.bind ?_ (fun _ => ?_)
theorem impl_tens.mono : ∀ a0 k, LeO (impl_tens.f k a0) (impl_tens.f (k + 1) a0) := by
 intro a0 k
 have ih0 := impl_tens.mono_l k
 unfold impl_tens.f
 repeat' first
   | (with_reducible exact ih0 _ _ _)
   | (with_reducible exact LeO.refl _)
   | (with_reducible exact LeO.none _)
   | (with_reducible refine LeO.ite ?_ ?_)
   | (with_reducible refine LeO.bind ?_ (fun _ => ?_))
   | exact ih0 _ _ _
   | exact LeO.none _
   | refine LeO.ite ?_ ?_
   | refine LeO.bind ?_ (fun _ => ?_)
set_option maxHeartbeats 8000000 in
set_option maxRecDepth 100000 in
theorem impl_tens.calls (k : Nat) (a0 : Int) (r : Int) (w : World) (h : impl_tens.f k a0 = some r) :
  Calls Try.prog 51 #[.int .i64 a0] w fun e w' => e = .returned (.int .i64 r) ∧ Drawn0 w w' := by
 have H : (impl_tens.l0 k 1 a0 0) = some r := h
 clear h
 have H' := zA H
 clear H
 go_enter Try.func51, Try.ntmps51
 go_wp2
 go_loopg [3, 5] k (fun kq v3 v5 w' => ∃ (x3_1 : Int) (x5_1 : Int), v3 = .int .i64 x3_1 ∧ v5 = .int .i64 x5_1 ∧ Aside0 (impl_tens.l0 kq x3_1 a0 x5_1 = some r) ∧ Aside0 (kq ≤ k) ∧ Drawn0 w w')
 case atStart => exact ⟨(1), (0), (by first | rfl | (simp; done) | (simp [*]; done)), (by first | rfl | (simp; done) | (simp [*]; done)), H', ⟨Nat.le_refl _⟩, by repeat (first | exact Drawn0.refl _ | apply Drawn0.step)⟩
 case round =>
  clear H'
  obtain ⟨x3_1, x5_1, rfl, rfl, HA, HK1, ⟨m1, rfl⟩⟩ := hrel
  cases gk with
  | zero => exact absurd HA.out (by simp [impl_tens.l0])
  | succ k1 =>
   have H := HA.out
   clear HA
   simp only [impl_tens.l0] at H
   by_cases c2 : x5_1 < a0
   ·rw [if_pos c2] at H
    have c2b0 : decide (x5_1 < a0) = true := decide_eq_true c2
    clear c2
    have H' := zA H
    clear H
    go_wp2
    go_roundg k1
    case measure => have := HK1.out; omega
    case rel => exact ⟨(wrap64 (x3_1 * 10)), (wrap64 (x5_1 + 1)), (by first | rfl | (simp; done) | (simp [*]; done)), (by first | rfl | (simp; done) | (simp [*]; done)), H', ⟨by have := HK1.out; omega⟩, by repeat (first | exact Drawn0.refl _ | apply Drawn0.step)⟩
   ·rw [if_neg c2] at H
    have c2b0 : decide (x5_1 < a0) = false := decide_eq_false c2
    clear c2
    obtain rfl := Option.some.inj H
    go_wp2
    go_ret
    exact ⟨by first | rfl | (simp; done) | (simp [*]; done), by repeat (first | exact Drawn0.refl _ | apply Drawn0.step)⟩

end Go.Proofs.Ytmoaolcioihjnaa.Q

namespace Go.Proofs.Ytmoaolcioihjnaa.Q
open Go.RowKit Go.Proofs.YtmoaolcioihjnaaW.PrintWords Go.Proofs.YtmoaolcioihjnaaW.PrintLast Go.Proofs.YtmoaolcioihjnaaW.PrintMore Go.Proofs.YtmoaolcioihjnaaX
attribute [local go_sem] max2_int min2_int max_two min_two max_three min_three max_four min_four   -- for this text's walks alone
set_option linter.unusedVariables false
set_option linter.unusedSimpArgs false

def impl_DecCmp_1.f (a0 : Int) : Option (Int) := some (mx (-1) (mn a0 1))
set_option maxHeartbeats 8000000 in
set_option maxRecDepth 100000 in
theorem impl_DecCmp_1.calls (a0 : Int) (r : Int) (w : World) (h : impl_DecCmp_1.f a0 = some r) :
  Calls Try.prog 61 #[.int .i64 a0] w fun e w' => e = .returned (.int .i64 r) ∧ Below w.heap.size w w' := by
 have HB := zA (Below.refl w.heap.size w)
 have H : (some (mx (-1) (mn a0 1))) = some r := h
 clear h
 obtain ⟨ji2, hji2⟩ : ∃ j_ : Int, (mn a0 1) = j_ := ⟨_, rfl⟩
 replace H : (some (mx (-1) (ji2))) = some r := by first | (rw [hji2] at H; exact H) | (simp only [hji2] at H ⊢; exact H)
 (try (have hji2h : ji2 ≤ 1 := by (rw [← hji2]; unfold mn; (repeat' split) <;> omega)))
 (try (have hji2g : ji2 ≤ 64 := by omega))
 have hji2_ : (if 1 < a0 then 1 else a0) = ji2 := hji2
 obtain ⟨ji3, hji3⟩ : ∃ j_ : Int, (mx (-1) (ji2)) = j_ := ⟨_, rfl⟩
 replace H : (some ji3) = some r := by first | (rw [hji3] at H; exact H) | (simp only [hji3] at H ⊢; exact H)
 have hji3_ : (if (-1) < (ji2) then (ji2) else (-1)) = ji3 := hji3
 obtain rfl := Option.some.inj H
 go_enter Try.func61, Try.ntmps61
 go_wp2
 go_ret
 exact ⟨by first | rfl | (simp [errW_none, errW_some] <;> rfl) | (simp only [← hji2, ← hji3]; first | rfl | (simp [errW_none, errW_some] <;> rfl)) | (simp [*, errW_none, errW_some] <;> rfl), by repeat (first | (with_reducible first | exact HB.out | apply zG | apply zE | apply zF) | exact HB.out)⟩

end Go.Proofs.Ytmoaolcioihjnaa.Q

namespace Go.Proofs.Ytmoaolcioihjnaa.Q
open Go.RowKit Go.Proofs.YtmoaolcioihjnaaW.PrintWords Go.Proofs.YtmoaolcioihjnaaW.PrintLast Go.Proofs.YtmoaolcioihjnaaW.PrintMore Go.Proofs.YtmoaolcioihjnaaX
attribute [local go_sem] max2_int min2_int max_two min_two max_three min_three max_four min_four   -- for this text's walks alone
set_option linter.unusedVariables false
set_option linter.unusedSimpArgs false

def impl_DecCmp.j0 : Nat → Bool → Int → Int → Int → Int → Option (Int)
 | 0, _, _, _, _, _ => none
 | k + 1, x14, x525000, x525001, x526000, x526001 => if x14 = true then (some 0) else ((impl_DecCmp_1.f x525000).bind fun t528 => ((impl_DecCmp_1.f x526000).bind fun t529 => (if t528 = t529 then (if (wrap64 (x525001 - x526001)) > 9 then ((impl_DecCmp_1.f x525000).bind fun t533 => (some t533)) else (if (wrap64 (x525001 - x526001)) < (-9) then ((impl_DecCmp_1.f x526000).bind fun t534 => (some (wrap64 (-t534)))) else (if (wrap64 (x525001 - x526001)) > 0 then ((impl_tens.f k (wrap64 (x525001 - x526001))).bind fun t535 => ((impl_DecCmp_1.f (wrap64 ((wrap64 (x525000 * t535)) - x526000))).bind fun t536 => (some t536))) else ((impl_tens.f k (wrap64 (-(wrap64 (x525001 - x526001))))).bind fun t537 => ((impl_DecCmp_1.f (wrap64 (x525000 - (wrap64 (x526000 * t537))))).bind fun t538 => (some t538)))))) else ((impl_DecCmp_1.f x525000).bind fun t530 => ((impl_DecCmp_1.f x526000).bind fun t531 => ((impl_DecCmp_1.f (wrap64 (t530 - t531))).bind fun t532 => (some t532)))))))
def impl_DecCmp.f (k : Nat) (a0_0 : Int) (a0_1 : Int) (a1_0 : Int) (a1_1 : Int) : Option (Int) := (impl_DecOk.f a0_0 a0_1).bind fun t526 => (if t526 = true then ((impl_DecOk.f a1_0 a1_1).bind fun t527 => (impl_DecCmp.j0 k (!t527) a0_0 a0_1 a1_0 a1_1)) else (impl_DecCmp.j0 k true a0_0 a0_1 a1_0 a1_1))
theorem impl_DecCmp.mono_l : ∀ k, (∀ y0 y1 y2 y3 y4, LeO (impl_DecCmp.j0 k y0 y1 y2 y3 y4) (impl_DecCmp.j0 (k + 1) y0 y1 y2 y3 y4))
 | 0 => fun _ _ _ _ _ r h => by simp [impl_DecCmp.j0] at h
 | k + 1 => by
  have ih0 := impl_DecCmp.mono_l k
  ·intro y0 y1 y2 y3 y4
   unfold impl_DecCmp.j0
   repeat' first
   | (with_reducible exact ih0 _ _ _ _ _)
   | (with_reducible exact impl_tens.mono _ _)
   | (with_reducible exact LeO.refl _)
   | (with_reducible exact LeO.none _)
   | (with_reducible refine LeO.ite ?_ ?_)
   | (with_reducible refine LeO.bind ?_ (fun _ => ?_))
   | exact ih0 _ _ _ _ _
   | exact impl_tens.mono _ _
   | exact LeO.none _
   | refine LeO.ite ?_ ?_
   | refine LeO.bind ?_ (fun _ => ?_)
theorem impl_DecCmp.mono : ∀ a0 a1 a2 a3 k, LeO (impl_DecCmp.f k a0 a1 a2 a3) (impl_DecCmp.f (k + 1) a0 a1 a2 a3) := by
 intro a0 a1 a2 a3 k
 have ih0 := impl_DecCmp.mono_l k
 unfold impl_DecCmp.f
 repeat' first
   | (with_reducible exact ih0 _ _ _ _ _)
   | (with_reducible exact impl_tens.mono _ _)
   | (with_reducible exact LeO.refl _)
   | (with_reducible exact LeO.none _)
   | (with_reducible refine LeO.ite ?_ ?_)
   | (with_reducible refine LeO.bind ?_ (fun _ => ?_))
   | exact ih0 _ _ _ _ _
   | exact impl_tens.mono _ _
   | exact LeO.none _
   | refine LeO.ite ?_ ?_
   | refine LeO.bind ?_ (fun _ => ?_)
def impl_DecCmp.T4 : Bool × List (List Nat × List Nat) := (true, [([], []), ([], []), ([1], [1]), ([0, 2], [0, 2]), ([], []), ([], []), ([5], [5]), ([4, 6, 3], [4, 6]), ([3, 7], [3, 7])])
def impl_DecCmp.B4 : List Nat := [0, 0, 2, 7, 0, 0, 32, 127, 255]
theorem impl_DecCmp.tab4 : rtab .any (opsOf Try.f34 4) = impl_DecCmp.T4 := by kernel_rfl
theorem impl_DecCmp.bits4 : waitsOk impl_DecCmp.T4.2 impl_DecCmp.B4 = true := by kernel_rfl
def impl_DecCmp.T5 : Bool × List (List Nat × List Nat) := (true, [([], []), ([], []), ([], []), ([2], [2]), ([1, 3], [1, 3]), ([], []), ([], []), ([6], [6]), ([5, 7, 4], [5, 7]), ([4, 8], [4, 8]), ([0, 9, 8], [0, 9]), ([10, 10, 0, 1, 2, 3, 4, 5, 6, 7, 8, 9, 10], [10])])
def impl_DecCmp.B5 : List Nat := [0, 0, 0, 4, 14, 0, 0, 64, 254, 510, 1023, 2047]
theorem impl_DecCmp.tab5 : rtab .any (opsOf Try.f34 5) = impl_DecCmp.T5 := by kernel_rfl
theorem impl_DecCmp.bits5 : waitsOk impl_DecCmp.T5.2 impl_DecCmp.B5 = true := by kernel_rfl
def impl_DecCmp.T7 : Bool × List (List Nat × List Nat) := (true, [([], []), ([], []), ([1], [1]), ([], []), ([3], [3]), ([], []), ([5], [5]), ([6], [6]), ([4, 7], [4, 7]), ([2, 8], [2, 8]), ([0, 9, 7], [0, 9]), ([10, 10, 0, 1, 2, 3, 4, 5, 6, 7, 8, 9, 10], [10])])
def impl_DecCmp.B7 : List Nat := [0, 0, 2, 0, 8, 0, 32, 96, 248, 510, 1023, 2047]
theorem impl_DecCmp.tab7 : rtab .any (opsOf Try.f34 7) = impl_DecCmp.T7 := by kernel_rfl
theorem impl_DecCmp.bits7 : waitsOk impl_DecCmp.T7.2 impl_DecCmp.B7 = true := by kernel_rfl
def impl_DecCmp.T13 : Bool × List (List Nat × List Nat) := (true, [([], []), ([], []), ([1], [1]), ([], []), ([3], [3]), ([2, 4], [2, 4]), ([], []), ([6], [6]), ([5, 7], [5, 7]), ([0, 8, 4], [0, 8]), ([9, 9, 0, 1, 2, 3, 4, 5, 6, 7, 8, 9], [9])])
def impl_DecCmp.B13 : List Nat := [0, 0, 2, 0, 8, 30, 0, 64, 254, 511, 1023]
theorem impl_DecCmp.tab13 : rtab .any (opsOf Try.f34 13) = impl_DecCmp.T13 := by kernel_rfl
theorem impl_DecCmp.bits13 : waitsOk impl_DecCmp.T13.2 impl_DecCmp.B13 = true := by kernel_rfl
set_option maxHeartbeats 8000000 in
set_option maxRecDepth 100000 in
theorem impl_DecCmp.calls (k : Nat) (a0_0 : Int) (a0_1 : Int) (a1_0 : Int) (a1_1 : Int) (r : Int) (w : World) (h : impl_DecCmp.f k a0_0 a0_1 a1_0 a1_1 = some r) :
  Calls Try.prog 34 #[.agg #[.int .i64 a0_0, .int .i64 a0_1], .agg #[.int .i64 a1_0, .int .i64 a1_1]] w fun e w' => e = .returned (.int .i64 r) ∧ Below w.heap.size w w' := by
 have hu26 := Try.underlying26
 have HB := zA (Below.refl w.heap.size w)
 have H : ((impl_DecOk.f a0_0 a0_1).bind fun t526 => (if t526 = true then ((impl_DecOk.f a1_0 a1_1).bind fun t527 => (impl_DecCmp.j0 k (!t527) a0_0 a0_1 a1_0 a1_1)) else (impl_DecCmp.j0 k true a0_0 a0_1 a1_0 a1_1))) = some r := h
 clear h
 have HC3 := zA H
 clear H
 go_enter Try.func34, Try.ntmps34
 go_upto_region 1 with (first | ((with_reducible refine zS (N := 2) rfl ?_); refine zV ?hg (N := 2) ?hd (cs := #[.int .i64 a0_0, .int .i64 a0_1]) (t := 26) ?hr ?_; (case hd => rfl); (case hg => rfl); (case hr => first | (go_simp; done) | (go_simp; rfl)); intro gb524 hg w4 hbox hb; have n0_ := zA (zQ (by repeat (first | (with_reducible first | exact HB.out | apply zG | apply zE | apply zF) | exact HB.out)) hb); have n1_ := zA (hbox); have n2_ := zA ((by rw [hg]; exact (zR (by repeat (first | (with_reducible first | exact HB.out | apply zG | apply zE | apply zF) | exact HB.out))) : w.heap.size ≤ gb524)); have n3_ := zA ((by rw [hg]; exact (zR (by repeat (first | (with_reducible first | exact HB.out | apply zG | apply zE | apply zF) | exact HB.out))) : w.heap.size ≤ gb524)); clear HB; have HB := n0_; have BK524 := n1_; have GW524 := n2_; have GE524 := n3_; clear n0_ n1_ n2_ n3_; clear hb hbox hg) | ((with_reducible refine zS (N := 3) rfl ?_); refine zV ?hg (N := 3) ?hd (cs := #[.int .i64 a1_0, .int .i64 a1_1]) (t := 26) ?hr ?_; (case hd => rfl); (case hg => rfl); (case hr => first | (go_simp; done) | (go_simp; rfl)); intro gb525 hg w5 hbox hb; have n0_ := zA (zP (g := gb524) (o := .cells #[.int .i64 a0_0, .int .i64 a0_1] 26 (0, 0)) (by (with_reducible repeat (first | refine zB ?_ _ | refine zD ?_ | refine zC ?_ _)); exact BK524.out) hb); have n1_ := zA (zQ (by repeat (first | (with_reducible first | exact HB.out | apply zG | apply zE | apply zF | refine zH ?_ GE524.out) | exact HB.out)) hb); have n2_ := zA (hbox); have n3_ := zA ((by rw [hg]; exact (zR (by repeat (first | (with_reducible first | exact HB.out | apply zG | apply zE | apply zF | refine zH ?_ GE524.out) | exact HB.out))) : w.heap.size ≤ gb525)); have n4_ := zA ((by rw [hg]; exact (zR (by repeat (first | (with_reducible first | exact HB.out | apply zG | apply zE | apply zF | refine zH ?_ GE524.out) | exact HB.out))) : w.heap.size ≤ gb525)); have n5_ := zA ((by rw [hg]; exact Nat.ne_of_lt (blk_lt (g := gb524) (o := .cells #[.int .i64 a0_0, .int .i64 a0_1] 26 (0, 0)) (by (with_reducible repeat (first | refine zB ?_ _ | refine zD ?_ | refine zC ?_ _)); exact BK524.out)) : gb524 ≠ gb525)); have n6_ := zA ((by rw [hg]; exact Nat.ne_of_gt (blk_lt (g := gb524) (o := .cells #[.int .i64 a0_0, .int .i64 a0_1] 26 (0, 0)) (by (with_reducible repeat (first | refine zB ?_ _ | refine zD ?_ | refine zC ?_ _)); exact BK524.out)) : gb525 ≠ gb524)); clear BK524; clear HB; have BK524 := n0_; have HB := n1_; have BK525 := n2_; have GW525 := n3_; have GE525 := n4_; have NB524_525 := n5_; have NB525_524 := n6_; clear n0_ n1_ n2_ n3_ n4_ n5_ n6_; clear hb hbox hg))
 (try simp only [Act.put, zL, zM, zN])
 go_cut [14] (fun v14 wc => ∃ (kq : Nat) (x14_2 : Bool), v14 = .bool x14_2 ∧ Aside0 (impl_DecCmp.j0 kq x14_2 a0_0 a0_1 a1_0 a1_1 = some r) ∧ Aside0 (kq ≤ k) ∧ Aside0 (wc.heap[gb524]? = some (.cells #[.int .i64 a0_0, .int .i64 a0_1] 26 (0, 0))) ∧ Aside0 (wc.heap[gb525]? = some (.cells #[.int .i64 a1_0, .int .i64 a1_1] 26 (0, 0))) ∧ Aside0 (Below w.heap.size w wc))
 case first =>
  have H := HC3.out
  clear HC3
  replace H := Option.bind_eq_some_iff.mp H
  obtain ⟨t526, A60, H⟩ := H
  replace H : (if t526 = true then ((impl_DecOk.f a1_0 a1_1).bind fun t527 => (impl_DecCmp.j0 k (!t527) a0_0 a0_1 a1_0 a1_1)) else (impl_DecCmp.j0 k true a0_0 a0_1 a1_0 a1_1)) = some r := H
  have A6 := zA A60
  clear A60
  by_cases c7 : t526 = true
  ·subst c7
   have H1 : ((impl_DecOk.f a1_0 a1_1).bind fun t527 => (impl_DecCmp.j0 k (!t527) a0_0 a0_1 a1_0 a1_1)) = some r := by rw [if_pos rfl] at H; exact H
   clear H
   have H := H1
   clear H1
   replace H := Option.bind_eq_some_iff.mp H
   obtain ⟨t527, A80, H⟩ := H
   replace H : (impl_DecCmp.j0 k (!t527) a0_0 a0_1 a1_0 a1_1) = some r := H
   have A8 := zA A80
   clear A80
   have H' := zA H
   clear H
   have hnb9 := NB524_525.out
   have hnc9 := NB525_524.out
   have hcz10_0 : w5.cell? ⟨gb524, 0, none⟩ = some (.int .i64 a0_0) := (zJ BK524.out 0).trans rfl
   have hcz10_1 : w5.cell? ⟨gb524, 1, none⟩ = some (.int .i64 a0_1) := (zJ BK524.out 1).trans rfl
   have hfz10_0 := zK BK524.out 0
   have hfz10_1 := zK BK524.out 1
   go_wp2_with (first | ((with_reducible refine zT (f := 16) rfl ?_); refine goesL_ (some 8) rfl rfl Try.func16 (by kernel_rfl) rfl #[.agg #[.int .i64 a0_0, .int .i64 a0_1]] rfl (by (try simp only [zW, yA, yB]); first | done | rfl | (simp only [zX, zZ]; rfl)) ?_; (with_reducible refine (impl_DecOk.calls a0_0 a0_1 true _ A6.out).mono ?_); rintro e w11 ⟨rfl, hb⟩; refine ⟨_, rfl, ?_⟩; have n0_ := zA (zP (g := gb524) (o := .cells #[.int .i64 a0_0, .int .i64 a0_1] 26 (0, 0)) (by (with_reducible repeat (first | refine zB ?_ _ | refine zD ?_ | refine zC ?_ _)); exact BK524.out) hb); have n1_ := zA (zP (g := gb525) (o := .cells #[.int .i64 a1_0, .int .i64 a1_1] 26 (0, 0)) (by (with_reducible repeat (first | refine zB ?_ _ | refine zD ?_ | refine zC ?_ _)); exact BK525.out) hb); have n2_ := zA (zQ (by repeat (first | (with_reducible first | exact HB.out | apply zG | apply zE | apply zF | refine zH ?_ GE524.out | refine zH ?_ GE525.out) | exact HB.out)) hb); clear BK524; clear BK525; clear HB; have BK524 := n0_; have BK525 := n1_; have HB := n2_; clear n0_ n1_ n2_; (try clear hb); (try clear hb2); (try clear hk); (try clear hi); have hcz12_0 : w11.cell? ⟨gb525, 0, none⟩ = some (.int .i64 a1_0) := (zJ BK525.out 0).trans rfl; have hcz12_1 : w11.cell? ⟨gb525, 1, none⟩ = some (.int .i64 a1_1) := (zJ BK525.out 1).trans rfl; have hfz12_0 := zK BK525.out 0; have hfz12_1 := zK BK525.out 1) | (go_at_call 16; (with_reducible refine (impl_DecOk.calls a1_0 a1_1 t527 _ A8.out).mono ?_); rintro e w13 ⟨rfl, hb⟩; have n0_ := zA (zP (g := gb524) (o := .cells #[.int .i64 a0_0, .int .i64 a0_1] 26 (0, 0)) (by (with_reducible repeat (first | refine zB ?_ _ | refine zD ?_ | refine zC ?_ _)); exact BK524.out) hb); have n1_ := zA (zP (g := gb525) (o := .cells #[.int .i64 a1_0, .int .i64 a1_1] 26 (0, 0)) (by (with_reducible repeat (first | refine zB ?_ _ | refine zD ?_ | refine zC ?_ _)); exact BK525.out) hb); have n2_ := zA (zQ (by repeat (first | (with_reducible first | exact HB.out | apply zG | apply zE | apply zF | refine zH ?_ GE524.out | refine zH ?_ GE525.out) | exact HB.out)) hb); clear BK524; clear BK525; clear HB; have BK524 := n0_; have BK525 := n1_; have HB := n2_; clear n0_ n1_ n2_; (try clear hb); (try clear hb2); (try clear hk); (try clear hi)))
   go_meet
   case rel => exact ⟨_, (!t527), (by first | rfl | (simp; done) | (simp [*]; done)), H', ⟨by first | omega | exact Nat.le_refl _⟩, ⟨by (with_reducible repeat (first | refine zB ?_ _ | refine zD ?_ | refine zC ?_ _)); exact BK524.out⟩, ⟨by (with_reducible repeat (first | refine zB ?_ _ | refine zD ?_ | refine zC ?_ _)); exact BK525.out⟩, ⟨by repeat (first | (with_reducible first | exact HB.out | apply zG | apply zE | apply zF | refine zH ?_ GE524.out | refine zH ?_ GE525.out) | exact HB.out)⟩⟩
  ·replace c7 := Bool.eq_false_iff.mpr c7
   subst c7
   have H1 : (impl_DecCmp.j0 k true a0_0 a0_1 a1_0 a1_1) = some r := by rw [if_neg (show ¬ (false = true) by decide)] at H; exact H
   clear H
   have H := H1
   clear H1
   have H' := zA H
   clear H
   have hnb14 := NB524_525.out
   have hnc14 := NB525_524.out
   have hcz15_0 : w5.cell? ⟨gb524, 0, none⟩ = some (.int .i64 a0_0) := (zJ BK524.out 0).trans rfl
   have hcz15_1 : w5.cell? ⟨gb524, 1, none⟩ = some (.int .i64 a0_1) := (zJ BK524.out 1).trans rfl
   have hfz15_0 := zK BK524.out 0
   have hfz15_1 := zK BK524.out 1
   go_wp2_with (first | ((with_reducible refine zT (f := 16) rfl ?_); refine goesL_ (some 8) rfl rfl Try.func16 (by kernel_rfl) rfl #[.agg #[.int .i64 a0_0, .int .i64 a0_1]] rfl (by (try simp only [zW, yA, yB]); first | done | rfl | (simp only [zX, zZ]; rfl)) ?_; (with_reducible refine (impl_DecOk.calls a0_0 a0_1 false _ A6.out).mono ?_); rintro e w16 ⟨rfl, hb⟩; refine ⟨_, rfl, ?_⟩; have n0_ := zA (zP (g := gb524) (o := .cells #[.int .i64 a0_0, .int .i64 a0_1] 26 (0, 0)) (by (with_reducible repeat (first | refine zB ?_ _ | refine zD ?_ | refine zC ?_ _)); exact BK524.out) hb); have n1_ := zA (zP (g := gb525) (o := .cells #[.int .i64 a1_0, .int .i64 a1_1] 26 (0, 0)) (by (with_reducible repeat (first | refine zB ?_ _ | refine zD ?_ | refine zC ?_ _)); exact BK525.out) hb); have n2_ := zA (zQ (by repeat (first | (with_reducible first | exact HB.out | apply zG | apply zE | apply zF | refine zH ?_ GE524.out | refine zH ?_ GE525.out) | exact HB.out)) hb); clear BK524; clear BK525; clear HB; have BK524 := n0_; have BK525 := n1_; have HB := n2_; clear n0_ n1_ n2_; (try clear hb); (try clear hb2); (try clear hk); (try clear hi)))
   go_meet
   case rel => exact ⟨_, (true), (by first | rfl | (simp; done) | (simp [*]; done)), H', ⟨by first | omega | exact Nat.le_refl _⟩, ⟨by (with_reducible repeat (first | refine zB ?_ _ | refine zD ?_ | refine zC ?_ _)); exact BK524.out⟩, ⟨by (with_reducible repeat (first | refine zB ?_ _ | refine zD ?_ | refine zC ?_ _)); exact BK525.out⟩, ⟨by repeat (first | (with_reducible first | exact HB.out | apply zG | apply zE | apply zF | refine zH ?_ GE524.out | refine zH ?_ GE525.out) | exact HB.out)⟩⟩
 case rest =>
  clear HC3
  try clear c1
  try clear p2
  try clear c3
  try clear c7
  try clear c9
  try clear c14
  try clear c16
  try clear hcz10_0
  try clear hcz10_1
  try clear hcz12_0
  try clear hcz12_1
  try clear hcz15_0
  try clear hcz15_1
  try clear hfz10_0
  try clear hfz10_1
  try clear hfz12_0
  try clear hfz12_1
  try clear hfz15_0
  try clear hfz15_1
  obtain ⟨kq, x14_2, rfl, HA, HJ2, BK524, BK525, HB⟩ := hcut
  cases kq with
  | zero => exact absurd HA.out (by simp [impl_DecCmp.j0])
  | succ kj2 =>
   have H := HA.out
   clear HA
   simp only [impl_DecCmp.j0] at H
   by_cases c17 : x14_2 = true
   ·subst c17
    have H1 : (some 0) = some r := by rw [if_pos rfl] at H; exact H
    clear H
    have H := H1
    clear H1
    obtain rfl := Option.some.inj H
    go_wp2
    go_ret
    exact ⟨by first | rfl | (simp [errW_none, errW_some] <;> rfl) | (simp [*, errW_none, errW_some] <;> rfl), by repeat (first | (with_reducible first | exact HB.out | apply zG | apply zE | apply zF | refine zH ?_ GE524.out | refine zH ?_ GE525.out) | exact HB.out)⟩
   ·replace c17 := Bool.eq_false_iff.mpr c17
    subst c17
    have H1 : ((impl_DecCmp_1.f a0_0).bind fun t528 => ((impl_DecCmp_1.f a1_0).bind fun t529 => (if t528 = t529 then (if (wrap64 (a0_1 - a1_1)) > 9 then ((impl_DecCmp_1.f a0_0).bind fun t533 => (some t533)) else (if (wrap64 (a0_1 - a1_1)) < (-9) then ((impl_DecCmp_1.f a1_0).bind fun t534 => (some (wrap64 (-t534)))) else (if (wrap64 (a0_1 - a1_1)) > 0 then ((impl_tens.f kj2 (wrap64 (a0_1 - a1_1))).bind fun t535 => ((impl_DecCmp_1.f (wrap64 ((wrap64 (a0_0 * t535)) - a1_0))).bind fun t536 => (some t536))) else ((impl_tens.f kj2 (wrap64 (-(wrap64 (a0_1 - a1_1))))).bind fun t537 => ((impl_DecCmp_1.f (wrap64 (a0_0 - (wrap64 (a1_0 * t537))))).bind fun t538 => (some t538)))))) else ((impl_DecCmp_1.f a0_0).bind fun t530 => ((impl_DecCmp_1.f a1_0).bind fun t531 => ((impl_DecCmp_1.f (wrap64 (t530 - t531))).bind fun t532 => (some t532))))))) = some r := by rw [if_neg (show ¬ (false = true) by decide)] at H; exact H
    clear H
    have H := H1
    clear H1
    replace H := Option.bind_eq_some_iff.mp H
    obtain ⟨t528, A180, H⟩ := H
    replace H : ((impl_DecCmp_1.f a1_0).bind fun t529 => (if t528 = t529 then (if (wrap64 (a0_1 - a1_1)) > 9 then ((impl_DecCmp_1.f a0_0).bind fun t533 => (some t533)) else (if (wrap64 (a0_1 - a1_1)) < (-9) then ((impl_DecCmp_1.f a1_0).bind fun t534 => (some (wrap64 (-t534)))) else (if (wrap64 (a0_1 - a1_1)) > 0 then ((impl_tens.f kj2 (wrap64 (a0_1 - a1_1))).bind fun t535 => ((impl_DecCmp_1.f (wrap64 ((wrap64 (a0_0 * t535)) - a1_0))).bind fun t536 => (some t536))) else ((impl_tens.f kj2 (wrap64 (-(wrap64 (a0_1 - a1_1))))).bind fun t537 => ((impl_DecCmp_1.f (wrap64 (a0_0 - (wrap64 (a1_0 * t537))))).bind fun t538 => (some t538)))))) else ((impl_DecCmp_1.f a0_0).bind fun t530 => ((impl_DecCmp_1.f a1_0).bind fun t531 => ((impl_DecCmp_1.f (wrap64 (t530 - t531))).bind fun t532 => (some t532)))))) = some r := H
    have A18 := zA A180
    clear A180
    replace H := Option.bind_eq_some_iff.mp H
    obtain ⟨t529, A190, H⟩ := H
    replace H : (if t528 = t529 then (if (wrap64 (a0_1 - a1_1)) > 9 then ((impl_DecCmp_1.f a0_0).bind fun t533 => (some t533)) else (if (wrap64 (a0_1 - a1_1)) < (-9) then ((impl_DecCmp_1.f a1_0).bind fun t534 => (some (wrap64 (-t534)))) else (if (wrap64 (a0_1 - a1_1)) > 0 then ((impl_tens.f kj2 (wrap64 (a0_1 - a1_1))).bind fun t535 => ((impl_DecCmp_1.f (wrap64 ((wrap64 (a0_0 * t535)) - a1_0))).bind fun t536 => (some t536))) else ((impl_tens.f kj2 (wrap64 (-(wrap64 (a0_1 - a1_1))))).bind fun t537 => ((impl_DecCmp_1.f (wrap64 (a0_0 - (wrap64 (a1_0 * t537))))).bind fun t538 => (some t538)))))) else ((impl_DecCmp_1.f a0_0).bind fun t530 => ((impl_DecCmp_1.f a1_0).bind fun t531 => ((impl_DecCmp_1.f (wrap64 (t530 - t531))).bind fun t532 => (some t532))))) = some r := H
    have A19 := zA A190
    clear A190
    by_cases c20 : t528 = t529
    ·rw [if_pos c20] at H
     have c20b0 : (t528 == t529) = true := beq_iff_eq.mpr c20
     have c20b1 : (t528 != t529) = false := bne_eq_false_iff_eq.mpr c20
     clear c20
     by_cases c21 : (wrap64 (a0_1 - a1_1)) > 9
     ·rw [if_pos c21] at H
      have c21b0 : decide (9 < (wrap64 (a0_1 - a1_1))) = true := decide_eq_true c21
      clear c21
      replace H := Option.bind_eq_some_iff.mp H
      obtain ⟨t533, A220, H⟩ := H
      replace H : (some t533) = some r := H
      have A22 := zA A220
      clear A220
      obtain rfl := Option.some.inj H
      try go_wp2
      have n0_ := zA (zD BK524.out)
      have n1_ := zA (zD BK525.out)
      have n2_ := zA (zF HB.out)
      clear BK524
      clear BK525
      clear HB
      have BK524 := n0_
      have BK525 := n1_
      have HB := n2_
      clear n0_ n1_ n2_
      refine start_ (n := 9) (S := fun w' => w'.cell? ⟨gb524, 0, none⟩ = some (.int .i64 a0_0) ∧ w'.cell? ⟨gb524, 1, none⟩ = some (.int .i64 a0_1) ∧ w'.cell? ⟨gb525, 0, none⟩ = some (.int .i64 a1_0) ∧ w'.cell? ⟨gb525, 1, none⟩ = some (.int .i64 a1_1)) (ds := []) #[false, false, false, false, false, false, false, false, false] (by kernel_rfl) rfl rfl ⟨(zJ BK524.out 0).trans rfl, (zJ BK524.out 1).trans rfl, (zJ BK525.out 0).trans rfl, (zJ BK525.out 1).trans rfl⟩ (fun hHeld => ?_); refine with_tabW impl_DecCmp.tab4 impl_DecCmp.bits4 (fun HT_ HW_ => ?_)
      generalize wc.drew = w23 at BK524 BK525 HB hHeld ⊢
      refine pure_ (i := 0) (N := some 15) (v := ?_) (a' := ?_) #[true, false, false, false, false, false, false, false, false] rfl rfl (any_of HT_.out (by kernel_rfl)) (fun _ _ _ h => h) (Or.inl ⟨by rfl, ?_⟩) ?_ ?_
      rotate_left
      ·intro w'
       go_simp
       with_reducible rfl
      rotate_left
      ·simp only [Act.put, zL, zM, zN, i64_w, i32_w]
       rfl
      refine pure_ (i := 1) (N := some 16) (v := ?_) (a' := ?_) #[true, true, false, false, false, false, false, false, false] rfl rfl (any_of HT_.out (by kernel_rfl)) (fun _ _ _ h => h) (Or.inl ⟨by rfl, ?_⟩) ?_ ?_
      rotate_left
      ·intro w'
       go_simp
       with_reducible rfl
      rotate_left
      ·simp only [Act.put, zL, zM, zN, i64_w, i32_w]
       rfl
      refine pure_ (i := 4) (N := some 19) (v := ?_) (a' := ?_) #[true, true, false, false, true, false, false, false, false] rfl rfl (any_of HT_.out (by kernel_rfl)) (fun _ _ _ h => h) (Or.inl ⟨by rfl, ?_⟩) ?_ ?_
      rotate_left
      ·intro w'
       go_simp
       with_reducible rfl
      rotate_left
      ·simp only [Act.put, zL, zM, zN, i64_w, i32_w]
       rfl
      refine pure_ (i := 5) (N := some 20) (v := ?_) (a' := ?_) #[true, true, false, false, true, true, false, false, false] rfl rfl (any_of HT_.out (by kernel_rfl)) (fun _ _ _ h => h) (Or.inl ⟨by rfl, ?_⟩) ?_ ?_
      rotate_left
      ·intro w'
       go_simp
       with_reducible rfl
      rotate_left
      ·simp only [Act.put, zL, zM, zN, i64_w, i32_w]
       rfl
      refine take_ (i := 2) (N := some 17) (v := ?_) (a' := ?_) #[true, true, true, false, true, true, false, false, false] rfl rfl (take_ofW HT_.out HW_.out (by kernel_rfl)) (fun _ _ _ h => h) (Or.inl ⟨by rfl, ?_⟩) hHeld ?_ ?_
      rotate_left
      ·rintro w' ⟨s0, s1, s2, s3⟩
       go_simp
       with_reducible rfl
      rotate_left
      ·simp only [Act.put, zL, zM, zN, i64_w, i32_w]
       rfl
      refine take_ (i := 6) (N := some 21) (v := ?_) (a' := ?_) #[true, true, true, false, true, true, true, false, false] rfl rfl (take_ofW HT_.out HW_.out (by kernel_rfl)) (fun _ _ _ h => h) (Or.inl ⟨by rfl, ?_⟩) hHeld ?_ ?_
      rotate_left
      ·rintro w' ⟨s0, s1, s2, s3⟩
       go_simp
       with_reducible rfl
      rotate_left
      ·simp only [Act.put, zL, zM, zN, i64_w, i32_w]
       rfl
      refine one_ (i := 3) (N := some 18) #[true, true, true, true, true, true, true, false, false] rfl rfl (one_of HT_.out (by kernel_rfl)) (by decide) (fun K hK => ?_)
      refine goesv_ Try.func61 (by kernel_rfl) rfl #[.int .i64 a0_0] (by rfl) rfl rfl rfl (by (try simp only [zW, yA, yB]); first | done | rfl | (simp only [zX, zZ]; rfl)) ?_
      with_reducible refine (impl_DecCmp_1.calls a0_0 t528 _ A18.out).mono ?_
      rintro e w24 ⟨rfl, hb⟩
      refine ⟨_, rfl, ?_⟩
      have n0_ := zA (zP (g := gb524) (o := .cells #[.int .i64 a0_0, .int .i64 a0_1] 26 (0, 0)) (by (with_reducible repeat (first | refine zB ?_ _ | refine zD ?_ | refine zC ?_ _)); exact BK524.out) hb)
      have n1_ := zA (zP (g := gb525) (o := .cells #[.int .i64 a1_0, .int .i64 a1_1] 26 (0, 0)) (by (with_reducible repeat (first | refine zB ?_ _ | refine zD ?_ | refine zC ?_ _)); exact BK525.out) hb)
      have n2_ := zA (zQ (by repeat (first | (with_reducible first | exact HB.out | apply zG | apply zE | apply zF | refine zH ?_ GE524.out | refine zH ?_ GE525.out) | exact HB.out)) hb)
      clear BK524
      clear BK525
      clear HB
      have BK524 := n0_
      have BK525 := n1_
      have HB := n2_
      clear n0_ n1_ n2_
      (try clear hb)
      (try clear hb2)
      (try clear hk)
      (try clear hi)
      refine hK.out _ _ ⟨(zJ BK524.out 0).trans rfl, (zJ BK524.out 1).trans rfl, (zJ BK525.out 0).trans rfl, (zJ BK525.out 1).trans rfl⟩ (fun hHeld => ?_)
      clear hK K
      refine norm_ (a' := ?_) ?_ ?_
      rotate_left
      ·show Act.put _ (some 18) _ = _
       simp only [Act.put, zL, zM, zN, i64_w, i32_w]
       rfl
      refine one_ (i := 7) (N := some 22) #[true, true, true, true, true, true, true, true, false] rfl rfl (one_of HT_.out (by kernel_rfl)) (by decide) (fun K hK => ?_)
      refine goesv_ Try.func61 (by kernel_rfl) rfl #[.int .i64 a1_0] (by rfl) rfl rfl rfl (by (try simp only [zW, yA, yB]); first | done | rfl | (simp only [zX, zZ]; rfl)) ?_
      with_reducible refine (impl_DecCmp_1.calls a1_0 t529 _ A19.out).mono ?_
      rintro e w25 ⟨rfl, hb⟩
      refine ⟨_, rfl, ?_⟩
      have n0_ := zA (zP (g := gb524) (o := .cells #[.int .i64 a0_0, .int .i64 a0_1] 26 (0, 0)) (by (with_reducible repeat (first | refine zB ?_ _ | refine zD ?_ | refine zC ?_ _)); exact BK524.out) hb)
      have n1_ := zA (zP (g := gb525) (o := .cells #[.int .i64 a1_0, .int .i64 a1_1] 26 (0, 0)) (by (with_reducible repeat (first | refine zB ?_ _ | refine zD ?_ | refine zC ?_ _)); exact BK525.out) hb)
      have n2_ := zA (zQ (by repeat (first | (with_reducible first | exact HB.out | apply zG | apply zE | apply zF | refine zH ?_ GE524.out | refine zH ?_ GE525.out) | exact HB.out)) hb)
      clear BK524
      clear BK525
      clear HB
      have BK524 := n0_
      have BK525 := n1_
      have HB := n2_
      clear n0_ n1_ n2_
      (try clear hb)
      (try clear hb2)
      (try clear hk)
      (try clear hi)
      refine hK.out _ _ ⟨(zJ BK524.out 0).trans rfl, (zJ BK524.out 1).trans rfl, (zJ BK525.out 0).trans rfl, (zJ BK525.out 1).trans rfl⟩ (fun hHeld => ?_)
      clear hK K
      refine norm_ (a' := ?_) ?_ ?_
      rotate_left
      ·show Act.put _ (some 22) _ = _
       simp only [Act.put, zL, zM, zN, i64_w, i32_w]
       rfl
      refine pure_ (i := 8) (N := some 23) (v := ?_) (a' := ?_) #[true, true, true, true, true, true, true, true, true] rfl rfl (any_of HT_.out (by kernel_rfl)) (fun _ _ _ h => h) (Or.inl ⟨by rfl, ?_⟩) ?_ ?_
      rotate_left
      ·intro w'
       go_simp
       with_reducible rfl
      rotate_left
      ·simp only [Act.put, zL, zM, zN, i64_w, i32_w]
       rfl
      refine done_ (done_of HT_.out (by kernel_rfl)) ?_
      have hnb26 := NB524_525.out
      have hnc26 := NB525_524.out
      have hcz27_0 : w25.cell? ⟨gb524, 0, none⟩ = some (.int .i64 a0_0) := (zJ BK524.out 0).trans rfl
      have hcz27_1 : w25.cell? ⟨gb524, 1, none⟩ = some (.int .i64 a0_1) := (zJ BK524.out 1).trans rfl
      have hfz27_0 := zK BK524.out 0
      have hfz27_1 := zK BK524.out 1
      have hcz28_0 : w25.cell? ⟨gb525, 0, none⟩ = some (.int .i64 a1_0) := (zJ BK525.out 0).trans rfl
      have hcz28_1 : w25.cell? ⟨gb525, 1, none⟩ = some (.int .i64 a1_1) := (zJ BK525.out 1).trans rfl
      have hfz28_0 := zK BK525.out 0
      have hfz28_1 := zK BK525.out 1
      try go_wp2_with (first | ((refine gate_calleev (f := 61) rfl rfl ?_); refine goesvL_ (some 57) rfl rfl Try.func61 (by kernel_rfl) rfl #[.int .i64 a0_0] rfl rfl (by (try simp only [zW, yA, yB]); first | done | rfl | (simp only [zX, zZ]; rfl)) ?_; (with_reducible refine (impl_DecCmp_1.calls a0_0 t533 _ A22.out).mono ?_); rintro e w29 ⟨rfl, hb⟩; refine ⟨_, rfl, ?_⟩; have n0_ := zA (zP (g := gb524) (o := .cells #[.int .i64 a0_0, .int .i64 a0_1] 26 (0, 0)) (by (with_reducible repeat (first | refine zB ?_ _ | refine zD ?_ | refine zC ?_ _)); exact BK524.out) hb); have n1_ := zA (zP (g := gb525) (o := .cells #[.int .i64 a1_0, .int .i64 a1_1] 26 (0, 0)) (by (with_reducible repeat (first | refine zB ?_ _ | refine zD ?_ | refine zC ?_ _)); exact BK525.out) hb); have n2_ := zA (zQ (by repeat (first | (with_reducible first | exact HB.out | apply zG | apply zE | apply zF | refine zH ?_ GE524.out | refine zH ?_ GE525.out) | exact HB.out)) hb); clear BK524; clear BK525; clear HB; have BK524 := n0_; have BK525 := n1_; have HB := n2_; clear n0_ n1_ n2_; (try clear hb); (try clear hb2); (try clear hk); (try clear hi)))
      go_ret
      exact ⟨by first | rfl | (simp [errW_none, errW_some] <;> rfl) | (simp [*, errW_none, errW_some] <;> rfl), by repeat (first | (with_reducible first | exact HB.out | apply zG | apply zE | apply zF | refine zH ?_ GE524.out | refine zH ?_ GE525.out) | exact HB.out)⟩
     ·rw [if_neg c21] at H
      have c21b0 : decide (9 < (wrap64 (a0_1 - a1_1))) = false := decide_eq_false c21
      clear c21
      by_cases c30 : (wrap64 (a0_1 - a1_1)) < (-9)
      ·rw [if_pos c30] at H
       have c30b0 : decide ((wrap64 (a0_1 - a1_1)) < (-9)) = true := decide_eq_true c30
       clear c30
       replace H := Option.bind_eq_some_iff.mp H
       obtain ⟨t534, A310, H⟩ := H
       replace H : (some (wrap64 (-t534))) = some r := H
       have A31 := zA A310
       clear A310
       obtain rfl := Option.some.inj H
       try go_wp2
       have n0_ := zA (zD BK524.out)
       have n1_ := zA (zD BK525.out)
       have n2_ := zA (zF HB.out)
       clear BK524
       clear BK525
       clear HB
       have BK524 := n0_
       have BK525 := n1_
       have HB := n2_
       clear n0_ n1_ n2_
       refine start_ (n := 9) (S := fun w' => w'.cell? ⟨gb524, 0, none⟩ = some (.int .i64 a0_0) ∧ w'.cell? ⟨gb524, 1, none⟩ = some (.int .i64 a0_1) ∧ w'.cell? ⟨gb525, 0, none⟩ = some (.int .i64 a1_0) ∧ w'.cell? ⟨gb525, 1, none⟩ = some (.int .i64 a1_1)) (ds := []) #[false, false, false, false, false, false, false, false, false] (by kernel_rfl) rfl rfl ⟨(zJ BK524.out 0).trans rfl, (zJ BK524.out 1).trans rfl, (zJ BK525.out 0).trans rfl, (zJ BK525.out 1).trans rfl⟩ (fun hHeld => ?_); refine with_tabW impl_DecCmp.tab4 impl_DecCmp.bits4 (fun HT_ HW_ => ?_)
       generalize wc.drew = w32 at BK524 BK525 HB hHeld ⊢
       refine pure_ (i := 0) (N := some 15) (v := ?_) (a' := ?_) #[true, false, false, false, false, false, false, false, false] rfl rfl (any_of HT_.out (by kernel_rfl)) (fun _ _ _ h => h) (Or.inl ⟨by rfl, ?_⟩) ?_ ?_
       rotate_left
       ·intro w'
        go_simp
        with_reducible rfl
       rotate_left
       ·simp only [Act.put, zL, zM, zN, i64_w, i32_w]
        rfl
       refine pure_ (i := 1) (N := some 16) (v := ?_) (a' := ?_) #[true, true, false, false, false, false, false, false, false] rfl rfl (any_of HT_.out (by kernel_rfl)) (fun _ _ _ h => h) (Or.inl ⟨by rfl, ?_⟩) ?_ ?_
       rotate_left
       ·intro w'
        go_simp
        with_reducible rfl
       rotate_left
       ·simp only [Act.put, zL, zM, zN, i64_w, i32_w]
        rfl
       refine pure_ (i := 4) (N := some 19) (v := ?_) (a' := ?_) #[true, true, false, false, true, false, false, false, false] rfl rfl (any_of HT_.out (by kernel_rfl)) (fun _ _ _ h => h) (Or.inl ⟨by rfl, ?_⟩) ?_ ?_
       rotate_left
       ·intro w'
        go_simp
        with_reducible rfl
       rotate_left
       ·simp only [Act.put, zL, zM, zN, i64_w, i32_w]
        rfl
       refine pure_ (i := 5) (N := some 20) (v := ?_) (a' := ?_) #[true, true, false, false, true, true, false, false, false] rfl rfl (any_of HT_.out (by kernel_rfl)) (fun _ _ _ h => h) (Or.inl ⟨by rfl, ?_⟩) ?_ ?_
       rotate_left
       ·intro w'
        go_simp
        with_reducible rfl
       rotate_left
       ·simp only [Act.put, zL, zM, zN, i64_w, i32_w]
        rfl
       refine take_ (i := 2) (N := some 17) (v := ?_) (a' := ?_) #[true, true, true, false, true, true, false, false, false] rfl rfl (take_ofW HT_.out HW_.out (by kernel_rfl)) (fun _ _ _ h => h) (Or.inl ⟨by rfl, ?_⟩) hHeld ?_ ?_
       rotate_left
       ·rintro w' ⟨s0, s1, s2, s3⟩
        go_simp
        with_reducible rfl
       rotate_left
       ·simp only [Act.put, zL, zM, zN, i64_w, i32_w]
        rfl
       refine take_ (i := 6) (N := some 21) (v := ?_) (a' := ?_) #[true, true, true, false, true, true, true, false, false] rfl rfl (take_ofW HT_.out HW_.out (by kernel_rfl)) (fun _ _ _ h => h) (Or.inl ⟨by rfl, ?_⟩) hHeld ?_ ?_
       rotate_left
       ·rintro w' ⟨s0, s1, s2, s3⟩
        go_simp
        with_reducible rfl
       rotate_left
       ·simp only [Act.put, zL, zM, zN, i64_w, i32_w]
        rfl
       refine one_ (i := 3) (N := some 18) #[true, true, true, true, true, true, true, false, false] rfl rfl (one_of HT_.out (by kernel_rfl)) (by decide) (fun K hK => ?_)
       refine goesv_ Try.func61 (by kernel_rfl) rfl #[.int .i64 a0_0] (by rfl) rfl rfl rfl (by (try simp only [zW, yA, yB]); first | done | rfl | (simp only [zX, zZ]; rfl)) ?_
       with_reducible refine (impl_DecCmp_1.calls a0_0 t528 _ A18.out).mono ?_
       rintro e w33 ⟨rfl, hb⟩
       refine ⟨_, rfl, ?_⟩
       have n0_ := zA (zP (g := gb524) (o := .cells #[.int .i64 a0_0, .int .i64 a0_1] 26 (0, 0)) (by (with_reducible repeat (first | refine zB ?_ _ | refine zD ?_ | refine zC ?_ _)); exact BK524.out) hb)
       have n1_ := zA (zP (g := gb525) (o := .cells #[.int .i64 a1_0, .int .i64 a1_1] 26 (0, 0)) (by (with_reducible repeat (first | refine zB ?_ _ | refine zD ?_ | refine zC ?_ _)); exact BK525.out) hb)
       have n2_ := zA (zQ (by repeat (first | (with_reducible first | exact HB.out | apply zG | apply zE | apply zF | refine zH ?_ GE524.out | refine zH ?_ GE525.out) | exact HB.out)) hb)
       clear BK524
       clear BK525
       clear HB
       have BK524 := n0_
       have BK525 := n1_
       have HB := n2_
       clear n0_ n1_ n2_
       (try clear hb)
       (try clear hb2)
       (try clear hk)
       (try clear hi)
       refine hK.out _ _ ⟨(zJ BK524.out 0).trans rfl, (zJ BK524.out 1).trans rfl, (zJ BK525.out 0).trans rfl, (zJ BK525.out 1).trans rfl⟩ (fun hHeld => ?_)
       clear hK K
       refine norm_ (a' := ?_) ?_ ?_
       rotate_left
       ·show Act.put _ (some 18) _ = _
        simp only [Act.put, zL, zM, zN, i64_w, i32_w]
        rfl
       refine one_ (i := 7) (N := some 22) #[true, true, true, true, true, true, true, true, false] rfl rfl (one_of HT_.out (by kernel_rfl)) (by decide) (fun K hK => ?_)
       refine goesv_ Try.func61 (by kernel_rfl) rfl #[.int .i64 a1_0] (by rfl) rfl rfl rfl (by (try simp only [zW, yA, yB]); first | done | rfl | (simp only [zX, zZ]; rfl)) ?_
       with_reducible refine (impl_DecCmp_1.calls a1_0 t529 _ A19.out).mono ?_
       rintro e w34 ⟨rfl, hb⟩
       refine ⟨_, rfl, ?_⟩
       have n0_ := zA (zP (g := gb524) (o := .cells #[.int .i64 a0_0, .int .i64 a0_1] 26 (0, 0)) (by (with_reducible repeat (first | refine zB ?_ _ | refine zD ?_ | refine zC ?_ _)); exact BK524.out) hb)
       have n1_ := zA (zP (g := gb525) (o := .cells #[.int .i64 a1_0, .int .i64 a1_1] 26 (0, 0)) (by (with_reducible repeat (first | refine zB ?_ _ | refine zD ?_ | refine zC ?_ _)); exact BK525.out) hb)
       have n2_ := zA (zQ (by repeat (first | (with_reducible first | exact HB.out | apply zG | apply zE | apply zF | refine zH ?_ GE524.out | refine zH ?_ GE525.out) | exact HB.out)) hb)
       clear BK524
       clear BK525
       clear HB
       have BK524 := n0_
       have BK525 := n1_
       have HB := n2_
       clear n0_ n1_ n2_
       (try clear hb)
       (try clear hb2)
       (try clear hk)
       (try clear hi)
       refine hK.out _ _ ⟨(zJ BK524.out 0).trans rfl, (zJ BK524.out 1).trans rfl, (zJ BK525.out 0).trans rfl, (zJ BK525.out 1).trans rfl⟩ (fun hHeld => ?_)
       clear hK K
       refine norm_ (a' := ?_) ?_ ?_
       rotate_left
       ·show Act.put _ (some 22) _ = _
        simp only [Act.put, zL, zM, zN, i64_w, i32_w]
        rfl
       refine pure_ (i := 8) (N := some 23) (v := ?_) (a' := ?_) #[true, true, true, true, true, true, true, true, true] rfl rfl (any_of HT_.out (by kernel_rfl)) (fun _ _ _ h => h) (Or.inl ⟨by rfl, ?_⟩) ?_ ?_
       rotate_left
       ·intro w'
        go_simp
        with_reducible rfl
       rotate_left
       ·simp only [Act.put, zL, zM, zN, i64_w, i32_w]
        rfl
       refine done_ (done_of HT_.out (by kernel_rfl)) ?_
       have hnb35 := NB524_525.out
       have hnc35 := NB525_524.out
       have hcz36_0 : w34.cell? ⟨gb524, 0, none⟩ = some (.int .i64 a0_0) := (zJ BK524.out 0).trans rfl
       have hcz36_1 : w34.cell? ⟨gb524, 1, none⟩ = some (.int .i64 a0_1) := (zJ BK524.out 1).trans rfl
       have hfz36_0 := zK BK524.out 0
       have hfz36_1 := zK BK524.out 1
       have hcz37_0 : w34.cell? ⟨gb525, 0, none⟩ = some (.int .i64 a1_0) := (zJ BK525.out 0).trans rfl
       have hcz37_1 : w34.cell? ⟨gb525, 1, none⟩ = some (.int .i64 a1_1) := (zJ BK525.out 1).trans rfl
       have hfz37_0 := zK BK525.out 0
       have hfz37_1 := zK BK525.out 1
       try go_wp2_with (first | ((refine gate_calleev (f := 61) rfl rfl ?_); refine goesvL_ (some 64) rfl rfl Try.func61 (by kernel_rfl) rfl #[.int .i64 a1_0] rfl rfl (by (try simp only [zW, yA, yB]); first | done | rfl | (simp only [zX, zZ]; rfl)) ?_; (with_reducible refine (impl_DecCmp_1.calls a1_0 t534 _ A31.out).mono ?_); rintro e w38 ⟨rfl, hb⟩; refine ⟨_, rfl, ?_⟩; have n0_ := zA (zP (g := gb524) (o := .cells #[.int .i64 a0_0, .int .i64 a0_1] 26 (0, 0)) (by (with_reducible repeat (first | refine zB ?_ _ | refine zD ?_ | refine zC ?_ _)); exact BK524.out) hb); have n1_ := zA (zP (g := gb525) (o := .cells #[.int .i64 a1_0, .int .i64 a1_1] 26 (0, 0)) (by (with_reducible repeat (first | refine zB ?_ _ | refine zD ?_ | refine zC ?_ _)); exact BK525.out) hb); have n2_ := zA (zQ (by repeat (first | (with_reducible first | exact HB.out | apply zG | apply zE | apply zF | refine zH ?_ GE524.out | refine zH ?_ GE525.out) | exact HB.out)) hb); clear BK524; clear BK525; clear HB; have BK524 := n0_; have BK525 := n1_; have HB := n2_; clear n0_ n1_ n2_; (try clear hb); (try clear hb2); (try clear hk); (try clear hi)))
       go_ret
       exact ⟨by first | rfl | (simp [errW_none, errW_some] <;> rfl) | (simp [*, errW_none, errW_some] <;> rfl), by repeat (first | (with_reducible first | exact HB.out | apply zG | apply zE | apply zF | refine zH ?_ GE524.out | refine zH ?_ GE525.out) | exact HB.out)⟩
      ·rw [if_neg c30] at H
       have c30b0 : decide ((wrap64 (a0_1 - a1_1)) < (-9)) = false := decide_eq_false c30
       clear c30
       by_cases c39 : (wrap64 (a0_1 - a1_1)) > 0
       ·rw [if_pos c39] at H
        have c39b0 : decide (0 < (wrap64 (a0_1 - a1_1))) = true := decide_eq_true c39
        clear c39
        replace H := Option.bind_eq_some_iff.mp H
        obtain ⟨t535, A400, H⟩ := H
        replace H : ((impl_DecCmp_1.f (wrap64 ((wrap64 (a0_0 * t535)) - a1_0))).bind fun t536 => (some t536)) = some r := H
        have A40 := zA A400
        clear A400
        replace H := Option.bind_eq_some_iff.mp H
        obtain ⟨t536, A410, H⟩ := H
        replace H : (some t536) = some r := H
        have A41 := zA A410
        clear A410
        obtain rfl := Option.some.inj H
        try go_wp2
        have n0_ := zA (zD BK524.out)
        have n1_ := zA (zD BK525.out)
        have n2_ := zA (zF HB.out)
        clear BK524
        clear BK525
        clear HB
        have BK524 := n0_
        have BK525 := n1_
        have HB := n2_
        clear n0_ n1_ n2_
        refine start_ (n := 9) (S := fun w' => w'.cell? ⟨gb524, 0, none⟩ = some (.int .i64 a0_0) ∧ w'.cell? ⟨gb524, 1, none⟩ = some (.int .i64 a0_1) ∧ w'.cell? ⟨gb525, 0, none⟩ = some (.int .i64 a1_0) ∧ w'.cell? ⟨gb525, 1, none⟩ = some (.int .i64 a1_1)) (ds := []) #[false, false, false, false, false, false, false, false, false] (by kernel_rfl) rfl rfl ⟨(zJ BK524.out 0).trans rfl, (zJ BK524.out 1).trans rfl, (zJ BK525.out 0).trans rfl, (zJ BK525.out 1).trans rfl⟩ (fun hHeld => ?_); refine with_tabW impl_DecCmp.tab4 impl_DecCmp.bits4 (fun HT_ HW_ => ?_)
        generalize wc.drew = w42 at BK524 BK525 HB hHeld ⊢
        refine pure_ (i := 0) (N := some 15) (v := ?_) (a' := ?_) #[true, false, false, false, false, false, false, false, false] rfl rfl (any_of HT_.out (by kernel_rfl)) (fun _ _ _ h => h) (Or.inl ⟨by rfl, ?_⟩) ?_ ?_
        rotate_left
        ·intro w'
         go_simp
         with_reducible rfl
        rotate_left
        ·simp only [Act.put, zL, zM, zN, i64_w, i32_w]
         rfl
        refine pure_ (i := 1) (N := some 16) (v := ?_) (a' := ?_) #[true, true, false, false, false, false, false, false, false] rfl rfl (any_of HT_.out (by kernel_rfl)) (fun _ _ _ h => h) (Or.inl ⟨by rfl, ?_⟩) ?_ ?_
        rotate_left
        ·intro w'
         go_simp
         with_reducible rfl
        rotate_left
        ·simp only [Act.put, zL, zM, zN, i64_w, i32_w]
         rfl
        refine pure_ (i := 4) (N := some 19) (v := ?_) (a' := ?_) #[true, true, false, false, true, false, false, false, false] rfl rfl (any_of HT_.out (by kernel_rfl)) (fun _ _ _ h => h) (Or.inl ⟨by rfl, ?_⟩) ?_ ?_
        rotate_left
        ·intro w'
         go_simp
         with_reducible rfl
        rotate_left
        ·simp only [Act.put, zL, zM, zN, i64_w, i32_w]
         rfl
        refine pure_ (i := 5) (N := some 20) (v := ?_) (a' := ?_) #[true, true, false, false, true, true, false, false, false] rfl rfl (any_of HT_.out (by kernel_rfl)) (fun _ _ _ h => h) (Or.inl ⟨by rfl, ?_⟩) ?_ ?_
        rotate_left
        ·intro w'
         go_simp
         with_reducible rfl
        rotate_left
        ·simp only [Act.put, zL, zM, zN, i64_w, i32_w]
         rfl
        refine take_ (i := 2) (N := some 17) (v := ?_) (a' := ?_) #[true, true, true, false, true, true, false, false, false] rfl rfl (take_ofW HT_.out HW_.out (by kernel_rfl)) (fun _ _ _ h => h) (Or.inl ⟨by rfl, ?_⟩) hHeld ?_ ?_
        rotate_left
        ·rintro w' ⟨s0, s1, s2, s3⟩
         go_simp
         with_reducible rfl
        rotate_left
        ·simp only [Act.put, zL, zM, zN, i64_w, i32_w]
         rfl
        refine take_ (i := 6) (N := some 21) (v := ?_) (a' := ?_) #[true, true, true, false, true, true, true, false, false] rfl rfl (take_ofW HT_.out HW_.out (by kernel_rfl)) (fun _ _ _ h => h) (Or.inl ⟨by rfl, ?_⟩) hHeld ?_ ?_
        rotate_left
        ·rintro w' ⟨s0, s1, s2, s3⟩
         go_simp
         with_reducible rfl
        rotate_left
        ·simp only [Act.put, zL, zM, zN, i64_w, i32_w]
         rfl
        refine one_ (i := 3) (N := some 18) #[true, true, true, true, true, true, true, false, false] rfl rfl (one_of HT_.out (by kernel_rfl)) (by decide) (fun K hK => ?_)
        refine goesv_ Try.func61 (by kernel_rfl) rfl #[.int .i64 a0_0] (by rfl) rfl rfl rfl (by (try simp only [zW, yA, yB]); first | done | rfl | (simp only [zX, zZ]; rfl)) ?_
        with_reducible refine (impl_DecCmp_1.calls a0_0 t528 _ A18.out).mono ?_
        rintro e w43 ⟨rfl, hb⟩
        refine ⟨_, rfl, ?_⟩
        have n0_ := zA (zP (g := gb524) (o := .cells #[.int .i64 a0_0, .int .i64 a0_1] 26 (0, 0)) (by (with_reducible repeat (first | refine zB ?_ _ | refine zD ?_ | refine zC ?_ _)); exact BK524.out) hb)
        have n1_ := zA (zP (g := gb525) (o := .cells #[.int .i64 a1_0, .int .i64 a1_1] 26 (0, 0)) (by (with_reducible repeat (first | refine zB ?_ _ | refine zD ?_ | refine zC ?_ _)); exact BK525.out) hb)
        have n2_ := zA (zQ (by repeat (first | (with_reducible first | exact HB.out | apply zG | apply zE | apply zF | refine zH ?_ GE524.out | refine zH ?_ GE525.out) | exact HB.out)) hb)
        clear BK524
        clear BK525
        clear HB
        have BK524 := n0_
        have BK525 := n1_
        have HB := n2_
        clear n0_ n1_ n2_
        (try clear hb)
        (try clear hb2)
        (try clear hk)
        (try clear hi)
        refine hK.out _ _ ⟨(zJ BK524.out 0).trans rfl, (zJ BK524.out 1).trans rfl, (zJ BK525.out 0).trans rfl, (zJ BK525.out 1).trans rfl⟩ (fun hHeld => ?_)
        clear hK K
        refine norm_ (a' := ?_) ?_ ?_
        rotate_left
        ·show Act.put _ (some 18) _ = _
         simp only [Act.put, zL, zM, zN, i64_w, i32_w]
         rfl
        refine one_ (i := 7) (N := some 22) #[true, true, true, true, true, true, true, true, false] rfl rfl (one_of HT_.out (by kernel_rfl)) (by decide) (fun K hK => ?_)
        refine goesv_ Try.func61 (by kernel_rfl) rfl #[.int .i64 a1_0] (by rfl) rfl rfl rfl (by (try simp only [zW, yA, yB]); first | done | rfl | (simp only [zX, zZ]; rfl)) ?_
        with_reducible refine (impl_DecCmp_1.calls a1_0 t529 _ A19.out).mono ?_
        rintro e w44 ⟨rfl, hb⟩
        refine ⟨_, rfl, ?_⟩
        have n0_ := zA (zP (g := gb524) (o := .cells #[.int .i64 a0_0, .int .i64 a0_1] 26 (0, 0)) (by (with_reducible repeat (first | refine zB ?_ _ | refine zD ?_ | refine zC ?_ _)); exact BK524.out) hb)
        have n1_ := zA (zP (g := gb525) (o := .cells #[.int .i64 a1_0, .int .i64 a1_1] 26 (0, 0)) (by (with_reducible repeat (first | refine zB ?_ _ | refine zD ?_ | refine zC ?_ _)); exact BK525.out) hb)
        have n2_ := zA (zQ (by repeat (first | (with_reducible first | exact HB.out | apply zG | apply zE | apply zF | refine zH ?_ GE524.out | refine zH ?_ GE525.out) | exact HB.out)) hb)
        clear BK524
        clear BK525
        clear HB
        have BK524 := n0_
        have BK525 := n1_
        have HB := n2_
        clear n0_ n1_ n2_
        (try clear hb)
        (try clear hb2)
        (try clear hk)
        (try clear hi)
        refine hK.out _ _ ⟨(zJ BK524.out 0).trans rfl, (zJ BK524.out 1).trans rfl, (zJ BK525.out 0).trans rfl, (zJ BK525.out 1).trans rfl⟩ (fun hHeld => ?_)
        clear hK K
        refine norm_ (a' := ?_) ?_ ?_
        rotate_left
        ·show Act.put _ (some 22) _ = _
         simp only [Act.put, zL, zM, zN, i64_w, i32_w]
         rfl
        refine pure_ (i := 8) (N := some 23) (v := ?_) (a' := ?_) #[true, true, true, true, true, true, true, true, true] rfl rfl (any_of HT_.out (by kernel_rfl)) (fun _ _ _ h => h) (Or.inl ⟨by rfl, ?_⟩) ?_ ?_
        rotate_left
        ·intro w'
         go_simp
         with_reducible rfl
        rotate_left
        ·simp only [Act.put, zL, zM, zN, i64_w, i32_w]
         rfl
        refine done_ (done_of HT_.out (by kernel_rfl)) ?_
        have hnb45 := NB524_525.out
        have hnc45 := NB525_524.out
        have hcz46_0 : w44.cell? ⟨gb524, 0, none⟩ = some (.int .i64 a0_0) := (zJ BK524.out 0).trans rfl
        have hcz46_1 : w44.cell? ⟨gb524, 1, none⟩ = some (.int .i64 a0_1) := (zJ BK524.out 1).trans rfl
        have hfz46_0 := zK BK524.out 0
        have hfz46_1 := zK BK524.out 1
        have hcz47_0 : w44.cell? ⟨gb525, 0, none⟩ = some (.int .i64 a1_0) := (zJ BK525.out 0).trans rfl
        have hcz47_1 : w44.cell? ⟨gb525, 1, none⟩ = some (.int .i64 a1_1) := (zJ BK525.out 1).trans rfl
        have hfz47_0 := zK BK525.out 0
        have hfz47_1 := zK BK525.out 1
        try go_wp2
        have n0_ := zA (zD BK524.out)
        have n1_ := zA (zD BK525.out)
        have n2_ := zA (zF HB.out)
        clear BK524
        clear BK525
        clear HB
        have BK524 := n0_
        have BK525 := n1_
        have HB := n2_
        clear n0_ n1_ n2_
        refine start_ (n := 11) (S := fun w' => w'.cell? ⟨gb524, 0, none⟩ = some (.int .i64 a0_0) ∧ w'.cell? ⟨gb524, 1, none⟩ = some (.int .i64 a0_1) ∧ w'.cell? ⟨gb525, 0, none⟩ = some (.int .i64 a1_0) ∧ w'.cell? ⟨gb525, 1, none⟩ = some (.int .i64 a1_1)) (ds := []) #[false, false, false, false, false, false, false, false, false, false, false] (by kernel_rfl) rfl rfl ⟨(zJ BK524.out 0).trans rfl, (zJ BK524.out 1).trans rfl, (zJ BK525.out 0).trans rfl, (zJ BK525.out 1).trans rfl⟩ (fun hHeld => ?_); refine with_tabW impl_DecCmp.tab13 impl_DecCmp.bits13 (fun HT_ HW_ => ?_)
        generalize w44.drew = w48 at BK524 BK525 HB hHeld ⊢
        refine pure_ (i := 0) (N := some 69) (v := ?_) (a' := ?_) #[true, false, false, false, false, false, false, false, false, false, false] rfl rfl (any_of HT_.out (by kernel_rfl)) (fun _ _ _ h => h) (Or.inl ⟨by rfl, ?_⟩) ?_ ?_
        rotate_left
        ·intro w'
         go_simp
         with_reducible rfl
        rotate_left
        ·simp only [Act.put, zL, zM, zN, i64_w, i32_w]
         rfl
        refine pure_ (i := 1) (N := some 70) (v := ?_) (a' := ?_) #[true, true, false, false, false, false, false, false, false, false, false] rfl rfl (any_of HT_.out (by kernel_rfl)) (fun _ _ _ h => h) (Or.inl ⟨by rfl, ?_⟩) ?_ ?_
        rotate_left
        ·intro w'
         go_simp
         with_reducible rfl
        rotate_left
        ·simp only [Act.put, zL, zM, zN, i64_w, i32_w]
         rfl
        refine pure_ (i := 3) (N := some 72) (v := ?_) (a' := ?_) #[true, true, false, true, false, false, false, false, false, false, false] rfl rfl (any_of HT_.out (by kernel_rfl)) (fun _ _ _ h => h) (Or.inl ⟨by rfl, ?_⟩) ?_ ?_
        rotate_left
        ·intro w'
         go_simp
         with_reducible rfl
        rotate_left
        ·simp only [Act.put, zL, zM, zN, i64_w, i32_w]
         rfl
        refine pure_ (i := 6) (N := some 75) (v := ?_) (a' := ?_) #[true, true, false, true, false, false, true, false, false, false, false] rfl rfl (any_of HT_.out (by kernel_rfl)) (fun _ _ _ h => h) (Or.inl ⟨by rfl, ?_⟩) ?_ ?_
        rotate_left
        ·intro w'
         go_simp
         with_reducible rfl
        rotate_left
        ·simp only [Act.put, zL, zM, zN, i64_w, i32_w]
         rfl
        refine take_ (i := 2) (N := some 71) (v := ?_) (a' := ?_) #[true, true, true, true, false, false, true, false, false, false, false] rfl rfl (take_ofW HT_.out HW_.out (by kernel_rfl)) (fun _ _ _ h => h) (Or.inl ⟨by rfl, ?_⟩) hHeld ?_ ?_
        rotate_left
        ·rintro w' ⟨s0, s1, s2, s3⟩
         go_simp
         with_reducible rfl
        rotate_left
        ·simp only [Act.put, zL, zM, zN, i64_w, i32_w]
         rfl
        refine take_ (i := 7) (N := some 76) (v := ?_) (a' := ?_) #[true, true, true, true, false, false, true, true, false, false, false] rfl rfl (take_ofW HT_.out HW_.out (by kernel_rfl)) (fun _ _ _ h => h) (Or.inl ⟨by rfl, ?_⟩) hHeld ?_ ?_
        rotate_left
        ·rintro w' ⟨s0, s1, s2, s3⟩
         go_simp
         with_reducible rfl
        rotate_left
        ·simp only [Act.put, zL, zM, zN, i64_w, i32_w]
         rfl
        refine one_ (i := 4) (N := some 73) #[true, true, true, true, true, false, true, true, false, false, false] rfl rfl (one_of HT_.out (by kernel_rfl)) (by decide) (fun K hK => ?_)
        refine goes_ Try.func51 (by kernel_rfl) rfl #[.int .i64 (wrap64 (a0_1 - a1_1))] (by rfl) rfl rfl (by (try simp only [zW, yA, yB]); first | done | rfl | (simp only [zX, zZ]; rfl)) ?_
        with_reducible refine (impl_tens.calls kj2 (wrap64 (a0_1 - a1_1)) t535 _ A40.out).mono ?_
        rintro e w' ⟨rfl, ⟨nd, rfl⟩⟩
        refine ⟨_, rfl, ?_⟩
        refine hK.out _ _ ⟨(zJ BK524.out 0).trans rfl, (zJ BK524.out 1).trans rfl, (zJ BK525.out 0).trans rfl, (zJ BK525.out 1).trans rfl⟩ (fun hHeld => ?_)
        clear hK K
        refine norm_ (a' := ?_) ?_ ?_
        rotate_left
        ·show Act.put _ (some 73) _ = _
         simp only [Act.put, zL, zM, zN, i64_w, i32_w]
         rfl
        refine pure_ (i := 5) (N := some 74) (v := ?_) (a' := ?_) #[true, true, true, true, true, true, true, true, false, false, false] rfl rfl (any_of HT_.out (by kernel_rfl)) (fun _ _ _ h => h) (Or.inl ⟨by rfl, ?_⟩) ?_ ?_
        rotate_left
        ·intro w'
         go_simp
         with_reducible rfl
        rotate_left
        ·simp only [Act.put, zL, zM, zN, i64_w, i32_w]
         rfl
        refine pure_ (i := 8) (N := some 77) (v := ?_) (a' := ?_) #[true, true, true, true, true, true, true, true, true, false, false] rfl rfl (any_of HT_.out (by kernel_rfl)) (fun _ _ _ h => h) (Or.inl ⟨by rfl, ?_⟩) ?_ ?_
        rotate_left
        ·intro w'
         go_simp
         with_reducible rfl
        rotate_left
        ·simp only [Act.put, zL, zM, zN, i64_w, i32_w]
         rfl
        refine one_ (i := 9) (N := some 78) #[true, true, true, true, true, true, true, true, true, true, false] rfl rfl (one_of HT_.out (by kernel_rfl)) (by decide) (fun K hK => ?_)
        refine goesv_ Try.func61 (by kernel_rfl) rfl #[.int .i64 (wrap64 ((wrap64 (a0_0 * t535)) - a1_0))] (by rfl) rfl rfl rfl (by (try simp only [zW, yA, yB]); first | done | rfl | (simp only [zX, zZ]; rfl)) ?_
        with_reducible refine (impl_DecCmp_1.calls (wrap64 ((wrap64 (a0_0 * t535)) - a1_0)) t536 _ A41.out).mono ?_
        rintro e w49 ⟨rfl, hb⟩
        refine ⟨_, rfl, ?_⟩
        have n0_ := zA (zP (g := gb524) (o := .cells #[.int .i64 a0_0, .int .i64 a0_1] 26 (0, 0)) (by (with_reducible repeat (first | refine zB ?_ _ | refine zD ?_ | refine zC ?_ _)); exact BK524.out) hb)
        have n1_ := zA (zP (g := gb525) (o := .cells #[.int .i64 a1_0, .int .i64 a1_1] 26 (0, 0)) (by (with_reducible repeat (first | refine zB ?_ _ | refine zD ?_ | refine zC ?_ _)); exact BK525.out) hb)
        have n2_ := zA (zQ (by repeat (first | (with_reducible first | exact HB.out | apply zG | apply zE | apply zF | refine zH ?_ GE524.out | refine zH ?_ GE525.out) | exact HB.out)) hb)
        clear BK524
        clear BK525
        clear HB
        have BK524 := n0_
        have BK525 := n1_
        have HB := n2_
        clear n0_ n1_ n2_
        (try clear hb)
        (try clear hb2)
        (try clear hk)
        (try clear hi)
        refine hK.out _ _ ⟨(zJ BK524.out 0).trans rfl, (zJ BK524.out 1).trans rfl, (zJ BK525.out 0).trans rfl, (zJ BK525.out 1).trans rfl⟩ (fun hHeld => ?_)
        clear hK K
        refine norm_ (a' := ?_) ?_ ?_
        rotate_left
        ·show Act.put _ (some 78) _ = _
         simp only [Act.put, zL, zM, zN, i64_w, i32_w]
         rfl
        refine pure_ (i := 10) (N := some 4) (v := ?_) (a' := ?_) #[true, true, true, true, true, true, true, true, true, true, true] rfl rfl (any_of HT_.out (by kernel_rfl)) (fun _ _ _ h => h) (Or.inl ⟨by rfl, ?_⟩) ?_ ?_
        rotate_left
        ·intro w'
         go_simp
         with_reducible rfl
        rotate_left
        ·simp only [Act.put, zL, zM, zN, i64_w, i32_w]
         rfl
        refine done_ (done_of HT_.out (by kernel_rfl)) ?_
        try go_wp2
        go_ret
        exact ⟨by first | rfl | (simp [errW_none, errW_some] <;> rfl) | (simp [*, errW_none, errW_some] <;> rfl), by repeat (first | (with_reducible first | exact HB.out | apply zG | apply zE | apply zF | refine zH ?_ GE524.out | refine zH ?_ GE525.out) | exact HB.out)⟩
       ·rw [if_neg c39] at H
        have c39b0 : decide (0 < (wrap64 (a0_1 - a1_1))) = false := decide_eq_false c39
        clear c39
        replace H := Option.bind_eq_some_iff.mp H
        obtain ⟨t537, A500, H⟩ := H
        replace H : ((impl_DecCmp_1.f (wrap64 (a0_0 - (wrap64 (a1_0 * t537))))).bind fun t538 => (some t538)) = some r := H
        have A50 := zA A500
        clear A500
        replace H := Option.bind_eq_some_iff.mp H
        obtain ⟨t538, A510, H⟩ := H
        replace H : (some t538) = some r := H
        have A51 := zA A510
        clear A510
        obtain rfl := Option.some.inj H
        try go_wp2
        have n0_ := zA (zD BK524.out)
        have n1_ := zA (zD BK525.out)
        have n2_ := zA (zF HB.out)
        clear BK524
        clear BK525
        clear HB
        have BK524 := n0_
        have BK525 := n1_
        have HB := n2_
        clear n0_ n1_ n2_
        refine start_ (n := 9) (S := fun w' => w'.cell? ⟨gb524, 0, none⟩ = some (.int .i64 a0_0) ∧ w'.cell? ⟨gb524, 1, none⟩ = some (.int .i64 a0_1) ∧ w'.cell? ⟨gb525, 0, none⟩ = some (.int .i64 a1_0) ∧ w'.cell? ⟨gb525, 1, none⟩ = some (.int .i64 a1_1)) (ds := []) #[false, false, false, false, false, false, false, false, false] (by kernel_rfl) rfl rfl ⟨(zJ BK524.out 0).trans rfl, (zJ BK524.out 1).trans rfl, (zJ BK525.out 0).trans rfl, (zJ BK525.out 1).trans rfl⟩ (fun hHeld => ?_); refine with_tabW impl_DecCmp.tab4 impl_DecCmp.bits4 (fun HT_ HW_ => ?_)
        generalize wc.drew = w52 at BK524 BK525 HB hHeld ⊢
        refine pure_ (i := 0) (N := some 15) (v := ?_) (a' := ?_) #[true, false, false, false, false, false, false, false, false] rfl rfl (any_of HT_.out (by kernel_rfl)) (fun _ _ _ h => h) (Or.inl ⟨by rfl, ?_⟩) ?_ ?_
        rotate_left
        ·intro w'
         go_simp
         with_reducible rfl
        rotate_left
        ·simp only [Act.put, zL, zM, zN, i64_w, i32_w]
         rfl
        refine pure_ (i := 1) (N := some 16) (v := ?_) (a' := ?_) #[true, true, false, false, false, false, false, false, false] rfl rfl (any_of HT_.out (by kernel_rfl)) (fun _ _ _ h => h) (Or.inl ⟨by rfl, ?_⟩) ?_ ?_
        rotate_left
        ·intro w'
         go_simp
         with_reducible rfl
        rotate_left
        ·simp only [Act.put, zL, zM, zN, i64_w, i32_w]
         rfl
        refine pure_ (i := 4) (N := some 19) (v := ?_) (a' := ?_) #[true, true, false, false, true, false, false, false, false] rfl rfl (any_of HT_.out (by kernel_rfl)) (fun _ _ _ h => h) (Or.inl ⟨by rfl, ?_⟩) ?_ ?_
        rotate_left
        ·intro w'
         go_simp
         with_reducible rfl
        rotate_left
        ·simp only [Act.put, zL, zM, zN, i64_w, i32_w]
         rfl
        refine pure_ (i := 5) (N := some 20) (v := ?_) (a' := ?_) #[true, true, false, false, true, true, false, false, false] rfl rfl (any_of HT_.out (by kernel_rfl)) (fun _ _ _ h => h) (Or.inl ⟨by rfl, ?_⟩) ?_ ?_
        rotate_left
        ·intro w'
         go_simp
         with_reducible rfl
        rotate_left
        ·simp only [Act.put, zL, zM, zN, i64_w, i32_w]
         rfl
        refine take_ (i := 2) (N := some 17) (v := ?_) (a' := ?_) #[true, true, true, false, true, true, false, false, false] rfl rfl (take_ofW HT_.out HW_.out (by kernel_rfl)) (fun _ _ _ h => h) (Or.inl ⟨by rfl, ?_⟩) hHeld ?_ ?_
        rotate_left
        ·rintro w' ⟨s0, s1, s2, s3⟩
         go_simp
         with_reducible rfl
        rotate_left
        ·simp only [Act.put, zL, zM, zN, i64_w, i32_w]
         rfl
        refine take_ (i := 6) (N := some 21) (v := ?_) (a' := ?_) #[true, true, true, false, true, true, true, false, false] rfl rfl (take_ofW HT_.out HW_.out (by kernel_rfl)) (fun _ _ _ h => h) (Or.inl ⟨by rfl, ?_⟩) hHeld ?_ ?_
        rotate_left
        ·rintro w' ⟨s0, s1, s2, s3⟩
         go_simp
         with_reducible rfl
        rotate_left
        ·simp only [Act.put, zL, zM, zN, i64_w, i32_w]
         rfl
        refine one_ (i := 3) (N := some 18) #[true, true, true, true, true, true, true, false, false] rfl rfl (one_of HT_.out (by kernel_rfl)) (by decide) (fun K hK => ?_)
        refine goesv_ Try.func61 (by kernel_rfl) rfl #[.int .i64 a0_0] (by rfl) rfl rfl rfl (by (try simp only [zW, yA, yB]); first | done | rfl | (simp only [zX, zZ]; rfl)) ?_
        with_reducible refine (impl_DecCmp_1.calls a0_0 t528 _ A18.out).mono ?_
        rintro e w53 ⟨rfl, hb⟩
        refine ⟨_, rfl, ?_⟩
        have n0_ := zA (zP (g := gb524) (o := .cells #[.int .i64 a0_0, .int .i64 a0_1] 26 (0, 0)) (by (with_reducible repeat (first | refine zB ?_ _ | refine zD ?_ | refine zC ?_ _)); exact BK524.out) hb)
        have n1_ := zA (zP (g := gb525) (o := .cells #[.int .i64 a1_0, .int .i64 a1_1] 26 (0, 0)) (by (with_reducible repeat (first | refine zB ?_ _ | refine zD ?_ | refine zC ?_ _)); exact BK525.out) hb)
        have n2_ := zA (zQ (by repeat (first | (with_reducible first | exact HB.out | apply zG | apply zE | apply zF | refine zH ?_ GE524.out | refine zH ?_ GE525.out) | exact HB.out)) hb)
        clear BK524
        clear BK525
        clear HB
        have BK524 := n0_
        have BK525 := n1_
        have HB := n2_
        clear n0_ n1_ n2_
        (try clear hb)
        (try clear hb2)
        (try clear hk)
        (try clear hi)
        refine hK.out _ _ ⟨(zJ BK524.out 0).trans rfl, (zJ BK524.out 1).trans rfl, (zJ BK525.out 0).trans rfl, (zJ BK525.out 1).trans rfl⟩ (fun hHeld => ?_)
        clear hK K
        refine norm_ (a' := ?_) ?_ ?_
        rotate_left
        ·show Act.put _ (some 18) _ = _
         simp only [Act.put, zL, zM, zN, i64_w, i32_w]
         rfl
        refine one_ (i := 7) (N := some 22) #[true, true, true, true, true, true, true, true, false] rfl rfl (one_of HT_.out (by kernel_rfl)) (by decide) (fun K hK => ?_)
        refine goesv_ Try.func61 (by kernel_rfl) rfl #[.int .i64 a1_0] (by rfl) rfl rfl rfl (by (try simp only [zW, yA, yB]); first | done | rfl | (simp only [zX, zZ]; rfl)) ?_
        with_reducible refine (impl_DecCmp_1.calls a1_0 t529 _ A19.out).mono ?_
        rintro e w54 ⟨rfl, hb⟩
        refine ⟨_, rfl, ?_⟩
        have n0_ := zA (zP (g := gb524) (o := .cells #[.int .i64 a0_0, .int .i64 a0_1] 26 (0, 0)) (by (with_reducible repeat (first | refine zB ?_ _ | refine zD ?_ | refine zC ?_ _)); exact BK524.out) hb)
        have n1_ := zA (zP (g := gb525) (o := .cells #[.int .i64 a1_0, .int .i64 a1_1] 26 (0, 0)) (by (with_reducible repeat (first | refine zB ?_ _ | refine zD ?_ | refine zC ?_ _)); exact BK525.out) hb)
        have n2_ := zA (zQ (by repeat (first | (with_reducible first | exact HB.out | apply zG | apply zE | apply zF | refine zH ?_ GE524.out | refine zH ?_ GE525.out) | exact HB.out)) hb)
        clear BK524
        clear BK525
        clear HB
        have BK524 := n0_
        have BK525 := n1_
        have HB := n2_
        clear n0_ n1_ n2_
        (try clear hb)
        (try clear hb2)
        (try clear hk)
        (try clear hi)
        refine hK.out _ _ ⟨(zJ BK524.out 0).trans rfl, (zJ BK524.out 1).trans rfl, (zJ BK525.out 0).trans rfl, (zJ BK525.out 1).trans rfl⟩ (fun hHeld => ?_)
        clear hK K
        refine norm_ (a' := ?_) ?_ ?_
        rotate_left
        ·show Act.put _ (some 22) _ = _
         simp only [Act.put, zL, zM, zN, i64_w, i32_w]
         rfl
        refine pure_ (i := 8) (N := some 23) (v := ?_) (a' := ?_) #[true, true, true, true, true, true, true, true, true] rfl rfl (any_of HT_.out (by kernel_rfl)) (fun _ _ _ h => h) (Or.inl ⟨by rfl, ?_⟩) ?_ ?_
        rotate_left
        ·intro w'
         go_simp
         with_reducible rfl
        rotate_left
        ·simp only [Act.put, zL, zM, zN, i64_w, i32_w]
         rfl
        refine done_ (done_of HT_.out (by kernel_rfl)) ?_
        have hnb55 := NB524_525.out
        have hnc55 := NB525_524.out
        have hcz56_0 : w54.cell? ⟨gb524, 0, none⟩ = some (.int .i64 a0_0) := (zJ BK524.out 0).trans rfl
        have hcz56_1 : w54.cell? ⟨gb524, 1, none⟩ = some (.int .i64 a0_1) := (zJ BK524.out 1).trans rfl
        have hfz56_0 := zK BK524.out 0
        have hfz56_1 := zK BK524.out 1
        have hcz57_0 : w54.cell? ⟨gb525, 0, none⟩ = some (.int .i64 a1_0) := (zJ BK525.out 0).trans rfl
        have hcz57_1 : w54.cell? ⟨gb525, 1, none⟩ = some (.int .i64 a1_1) := (zJ BK525.out 1).trans rfl
        have hfz57_0 := zK BK525.out 0
        have hfz57_1 := zK BK525.out 1
        try go_wp2
        have n0_ := zA (zD BK524.out)
        have n1_ := zA (zD BK525.out)
        have n2_ := zA (zF HB.out)
        clear BK524
        clear BK525
        clear HB
        have BK524 := n0_
        have BK525 := n1_
        have HB := n2_
        clear n0_ n1_ n2_
        refine start_ (n := 12) (S := fun w' => w'.cell? ⟨gb524, 0, none⟩ = some (.int .i64 a0_0) ∧ w'.cell? ⟨gb524, 1, none⟩ = some (.int .i64 a0_1) ∧ w'.cell? ⟨gb525, 0, none⟩ = some (.int .i64 a1_0) ∧ w'.cell? ⟨gb525, 1, none⟩ = some (.int .i64 a1_1)) (ds := []) #[false, false, false, false, false, false, false, false, false, false, false, false] (by kernel_rfl) rfl rfl ⟨(zJ BK524.out 0).trans rfl, (zJ BK524.out 1).trans rfl, (zJ BK525.out 0).trans rfl, (zJ BK525.out 1).trans rfl⟩ (fun hHeld => ?_); refine with_tabW impl_DecCmp.tab7 impl_DecCmp.bits7 (fun HT_ HW_ => ?_)
        generalize w54.drew = w58 at BK524 BK525 HB hHeld ⊢
        refine pure_ (i := 0) (N := some 40) (v := ?_) (a' := ?_) #[true, false, false, false, false, false, false, false, false, false, false, false] rfl rfl (any_of HT_.out (by kernel_rfl)) (fun _ _ _ h => h) (Or.inl ⟨by rfl, ?_⟩) ?_ ?_
        rotate_left
        ·intro w'
         go_simp
         with_reducible rfl
        rotate_left
        ·simp only [Act.put, zL, zM, zN, i64_w, i32_w]
         rfl
        refine pure_ (i := 1) (N := some 41) (v := ?_) (a' := ?_) #[true, true, false, false, false, false, false, false, false, false, false, false] rfl rfl (any_of HT_.out (by kernel_rfl)) (fun _ _ _ h => h) (Or.inl ⟨by rfl, ?_⟩) ?_ ?_
        rotate_left
        ·intro w'
         go_simp
         with_reducible rfl
        rotate_left
        ·simp only [Act.put, zL, zM, zN, i64_w, i32_w]
         rfl
        refine pure_ (i := 3) (N := some 43) (v := ?_) (a' := ?_) #[true, true, false, true, false, false, false, false, false, false, false, false] rfl rfl (any_of HT_.out (by kernel_rfl)) (fun _ _ _ h => h) (Or.inl ⟨by rfl, ?_⟩) ?_ ?_
        rotate_left
        ·intro w'
         go_simp
         with_reducible rfl
        rotate_left
        ·simp only [Act.put, zL, zM, zN, i64_w, i32_w]
         rfl
        refine pure_ (i := 5) (N := some 45) (v := ?_) (a' := ?_) #[true, true, false, true, false, true, false, false, false, false, false, false] rfl rfl (any_of HT_.out (by kernel_rfl)) (fun _ _ _ h => h) (Or.inl ⟨by rfl, ?_⟩) ?_ ?_
        rotate_left
        ·intro w'
         go_simp
         with_reducible rfl
        rotate_left
        ·simp only [Act.put, zL, zM, zN, i64_w, i32_w]
         rfl
        refine pure_ (i := 6) (N := some 46) (v := ?_) (a' := ?_) #[true, true, false, true, false, true, true, false, false, false, false, false] rfl rfl (any_of HT_.out (by kernel_rfl)) (fun _ _ _ h => h) (Or.inl ⟨by rfl, ?_⟩) ?_ ?_
        rotate_left
        ·intro w'
         go_simp
         with_reducible rfl
        rotate_left
        ·simp only [Act.put, zL, zM, zN, i64_w, i32_w]
         rfl
        refine take_ (i := 2) (N := some 42) (v := ?_) (a' := ?_) #[true, true, true, true, false, true, true, false, false, false, false, false] rfl rfl (take_ofW HT_.out HW_.out (by kernel_rfl)) (fun _ _ _ h => h) (Or.inl ⟨by rfl, ?_⟩) hHeld ?_ ?_
        rotate_left
        ·rintro w' ⟨s0, s1, s2, s3⟩
         go_simp
         with_reducible rfl
        rotate_left
        ·simp only [Act.put, zL, zM, zN, i64_w, i32_w]
         rfl
        refine take_ (i := 4) (N := some 44) (v := ?_) (a' := ?_) #[true, true, true, true, true, true, true, false, false, false, false, false] rfl rfl (take_ofW HT_.out HW_.out (by kernel_rfl)) (fun _ _ _ h => h) (Or.inl ⟨by rfl, ?_⟩) hHeld ?_ ?_
        rotate_left
        ·rintro w' ⟨s0, s1, s2, s3⟩
         go_simp
         with_reducible rfl
        rotate_left
        ·simp only [Act.put, zL, zM, zN, i64_w, i32_w]
         rfl
        refine one_ (i := 7) (N := some 47) #[true, true, true, true, true, true, true, true, false, false, false, false] rfl rfl (one_of HT_.out (by kernel_rfl)) (by decide) (fun K hK => ?_)
        refine goes_ Try.func51 (by kernel_rfl) rfl #[.int .i64 (wrap64 (-(wrap64 (a0_1 - a1_1))))] (by rfl) rfl rfl (by (try simp only [zW, yA, yB]); first | done | rfl | (simp only [zX, zZ]; rfl)) ?_
        with_reducible refine (impl_tens.calls kj2 (wrap64 (-(wrap64 (a0_1 - a1_1)))) t537 _ A50.out).mono ?_
        rintro e w' ⟨rfl, ⟨nd, rfl⟩⟩
        refine ⟨_, rfl, ?_⟩
        refine hK.out _ _ ⟨(zJ BK524.out 0).trans rfl, (zJ BK524.out 1).trans rfl, (zJ BK525.out 0).trans rfl, (zJ BK525.out 1).trans rfl⟩ (fun hHeld => ?_)
        clear hK K
        refine norm_ (a' := ?_) ?_ ?_
        rotate_left
        ·show Act.put _ (some 47) _ = _
         simp only [Act.put, zL, zM, zN, i64_w, i32_w]
         rfl
        refine pure_ (i := 8) (N := some 48) (v := ?_) (a' := ?_) #[true, true, true, true, true, true, true, true, true, false, false, false] rfl rfl (any_of HT_.out (by kernel_rfl)) (fun _ _ _ h => h) (Or.inl ⟨by rfl, ?_⟩) ?_ ?_
        rotate_left
        ·intro w'
         go_simp
         with_reducible rfl
        rotate_left
        ·simp only [Act.put, zL, zM, zN, i64_w, i32_w]
         rfl
        refine pure_ (i := 9) (N := some 49) (v := ?_) (a' := ?_) #[true, true, true, true, true, true, true, true, true, true, false, false] rfl rfl (any_of HT_.out (by kernel_rfl)) (fun _ _ _ h => h) (Or.inl ⟨by rfl, ?_⟩) ?_ ?_
        rotate_left
        ·intro w'
         go_simp
         with_reducible rfl
        rotate_left
        ·simp only [Act.put, zL, zM, zN, i64_w, i32_w]
         rfl
        refine one_ (i := 10) (N := some 50) #[true, true, true, true, true, true, true, true, true, true, true, false] rfl rfl (one_of HT_.out (by kernel_rfl)) (by decide) (fun K hK => ?_)
        refine goesv_ Try.func61 (by kernel_rfl) rfl #[.int .i64 (wrap64 (a0_0 - (wrap64 (a1_0 * t537))))] (by rfl) rfl rfl rfl (by (try simp only [zW, yA, yB]); first | done | rfl | (simp only [zX, zZ]; rfl)) ?_
        with_reducible refine (impl_DecCmp_1.calls (wrap64 (a0_0 - (wrap64 (a1_0 * t537)))) t538 _ A51.out).mono ?_
        rintro e w59 ⟨rfl, hb⟩
        refine ⟨_, rfl, ?_⟩
        have n0_ := zA (zP (g := gb524) (o := .cells #[.int .i64 a0_0, .int .i64 a0_1] 26 (0, 0)) (by (with_reducible repeat (first | refine zB ?_ _ | refine zD ?_ | refine zC ?_ _)); exact BK524.out) hb)
        have n1_ := zA (zP (g := gb525) (o := .cells #[.int .i64 a1_0, .int .i64 a1_1] 26 (0, 0)) (by (with_reducible repeat (first | refine zB ?_ _ | refine zD ?_ | refine zC ?_ _)); exact BK525.out) hb)
        have n2_ := zA (zQ (by repeat (first | (with_reducible first | exact HB.out | apply zG | apply zE | apply zF | refine zH ?_ GE524.out | refine zH ?_ GE525.out) | exact HB.out)) hb)
        clear BK524
        clear BK525
        clear HB
        have BK524 := n0_
        have BK525 := n1_
        have HB := n2_
        clear n0_ n1_ n2_
        (try clear hb)
        (try clear hb2)
        (try clear hk)
        (try clear hi)
        refine hK.out _ _ ⟨(zJ BK524.out 0).trans rfl, (zJ BK524.out 1).trans rfl, (zJ BK525.out 0).trans rfl, (zJ BK525.out 1).trans rfl⟩ (fun hHeld => ?_)
        clear hK K
        refine norm_ (a' := ?_) ?_ ?_
        rotate_left
        ·show Act.put _ (some 50) _ = _
         simp only [Act.put, zL, zM, zN, i64_w, i32_w]
         rfl
        refine pure_ (i := 11) (N := some 4) (v := ?_) (a' := ?_) #[true, true, true, true, true, true, true, true, true, true, true, true] rfl rfl (any_of HT_.out (by kernel_rfl)) (fun _ _ _ h => h) (Or.inl ⟨by rfl, ?_⟩) ?_ ?_
        rotate_left
        ·intro w'
         go_simp
         with_reducible rfl
        rotate_left
        ·simp only [Act.put, zL, zM, zN, i64_w, i32_w]
         rfl
        refine done_ (done_of HT_.out (by kernel_rfl)) ?_
        try go_wp2
        go_ret
        exact ⟨by first | rfl | (simp [errW_none, errW_some] <;> rfl) | (simp [*, errW_none, errW_some] <;> rfl), by repeat (first | (with_reducible first | exact HB.out | apply zG | apply zE | apply zF | refine zH ?_ GE524.out | refine zH ?_ GE525.out) | exact HB.out)⟩
    ·rw [if_neg c20] at H
     have c20b0 : (t528 == t529) = false := beq_eq_false_iff_ne.mpr c20
     have c20b1 : (t528 != t529) = true := bne_iff_ne.mpr c20
     replace H := Option.bind_eq_some_iff.mp H
     obtain ⟨t530, A600, H⟩ := H
     replace H : ((impl_DecCmp_1.f a1_0).bind fun t531 => ((impl_DecCmp_1.f (wrap64 (t530 - t531))).bind fun t532 => (some t532))) = some r := H
     have A60 := zA A600
     clear A600
     replace H := Option.bind_eq_some_iff.mp H
     obtain ⟨t531, A610, H⟩ := H
     replace H : ((impl_DecCmp_1.f (wrap64 (t530 - t531))).bind fun t532 => (some t532)) = some r := H
     have A61 := zA A610
     clear A610
     replace H := Option.bind_eq_some_iff.mp H
     obtain ⟨t532, A620, H⟩ := H
     replace H : (some t532) = some r := H
     have A62 := zA A620
     clear A620
     obtain rfl := Option.some.inj H
     try go_wp2
     have n0_ := zA (zD BK524.out)
     have n1_ := zA (zD BK525.out)
     have n2_ := zA (zF HB.out)
     clear BK524
     clear BK525
     clear HB
     have BK524 := n0_
     have BK525 := n1_
     have HB := n2_
     clear n0_ n1_ n2_
     refine start_ (n := 9) (S := fun w' => w'.cell? ⟨gb524, 0, none⟩ = some (.int .i64 a0_0) ∧ w'.cell? ⟨gb524, 1, none⟩ = some (.int .i64 a0_1) ∧ w'.cell? ⟨gb525, 0, none⟩ = some (.int .i64 a1_0) ∧ w'.cell? ⟨gb525, 1, none⟩ = some (.int .i64 a1_1)) (ds := []) #[false, false, false, false, false, false, false, false, false] (by kernel_rfl) rfl rfl ⟨(zJ BK524.out 0).trans rfl, (zJ BK524.out 1).trans rfl, (zJ BK525.out 0).trans rfl, (zJ BK525.out 1).trans rfl⟩ (fun hHeld => ?_); refine with_tabW impl_DecCmp.tab4 impl_DecCmp.bits4 (fun HT_ HW_ => ?_)
     generalize wc.drew = w63 at BK524 BK525 HB hHeld ⊢
     refine pure_ (i := 0) (N := some 15) (v := ?_) (a' := ?_) #[true, false, false, false, false, false, false, false, false] rfl rfl (any_of HT_.out (by kernel_rfl)) (fun _ _ _ h => h) (Or.inl ⟨by rfl, ?_⟩) ?_ ?_
     rotate_left
     ·intro w'
      go_simp
      with_reducible rfl
     rotate_left
     ·simp only [Act.put, zL, zM, zN, i64_w, i32_w]
      rfl
     refine pure_ (i := 1) (N := some 16) (v := ?_) (a' := ?_) #[true, true, false, false, false, false, false, false, false] rfl rfl (any_of HT_.out (by kernel_rfl)) (fun _ _ _ h => h) (Or.inl ⟨by rfl, ?_⟩) ?_ ?_
     rotate_left
     ·intro w'
      go_simp
      with_reducible rfl
     rotate_left
     ·simp only [Act.put, zL, zM, zN, i64_w, i32_w]
      rfl
     refine pure_ (i := 4) (N := some 19) (v := ?_) (a' := ?_) #[true, true, false, false, true, false, false, false, false] rfl rfl (any_of HT_.out (by kernel_rfl)) (fun _ _ _ h => h) (Or.inl ⟨by rfl, ?_⟩) ?_ ?_
     rotate_left
     ·intro w'
      go_simp
      with_reducible rfl
     rotate_left
     ·simp only [Act.put, zL, zM, zN, i64_w, i32_w]
      rfl
     refine pure_ (i := 5) (N := some 20) (v := ?_) (a' := ?_) #[true, true, false, false, true, true, false, false, false] rfl rfl (any_of HT_.out (by kernel_rfl)) (fun _ _ _ h => h) (Or.inl ⟨by rfl, ?_⟩) ?_ ?_
     rotate_left
     ·intro w'
      go_simp
      with_reducible rfl
     rotate_left
     ·simp only [Act.put, zL, zM, zN, i64_w, i32_w]
      rfl
     refine take_ (i := 2) (N := some 17) (v := ?_) (a' := ?_) #[true, true, true, false, true, true, false, false, false] rfl rfl (take_ofW HT_.out HW_.out (by kernel_rfl)) (fun _ _ _ h => h) (Or.inl ⟨by rfl, ?_⟩) hHeld ?_ ?_
     rotate_left
     ·rintro w' ⟨s0, s1, s2, s3⟩
      go_simp
      with_reducible rfl
     rotate_left
     ·simp only [Act.put, zL, zM, zN, i64_w, i32_w]
      rfl
     refine take_ (i := 6) (N := some 21) (v := ?_) (a' := ?_) #[true, true, true, false, true, true, true, false, false] rfl rfl (take_ofW HT_.out HW_.out (by kernel_rfl)) (fun _ _ _ h => h) (Or.inl ⟨by rfl, ?_⟩) hHeld ?_ ?_
     rotate_left
     ·rintro w' ⟨s0, s1, s2, s3⟩
      go_simp
      with_reducible rfl
     rotate_left
     ·simp only [Act.put, zL, zM, zN, i64_w, i32_w]
      rfl
     refine one_ (i := 3) (N := some 18) #[true, true, true, true, true, true, true, false, false] rfl rfl (one_of HT_.out (by kernel_rfl)) (by decide) (fun K hK => ?_)
     refine goesv_ Try.func61 (by kernel_rfl) rfl #[.int .i64 a0_0] (by rfl) rfl rfl rfl (by (try simp only [zW, yA, yB]); first | done | rfl | (simp only [zX, zZ]; rfl)) ?_
     with_reducible refine (impl_DecCmp_1.calls a0_0 t528 _ A18.out).mono ?_
     rintro e w64 ⟨rfl, hb⟩
     refine ⟨_, rfl, ?_⟩
     have n0_ := zA (zP (g := gb524) (o := .cells #[.int .i64 a0_0, .int .i64 a0_1] 26 (0, 0)) (by (with_reducible repeat (first | refine zB ?_ _ | refine zD ?_ | refine zC ?_ _)); exact BK524.out) hb)
     have n1_ := zA (zP (g := gb525) (o := .cells #[.int .i64 a1_0, .int .i64 a1_1] 26 (0, 0)) (by (with_reducible repeat (first | refine zB ?_ _ | refine zD ?_ | refine zC ?_ _)); exact BK525.out) hb)
     have n2_ := zA (zQ (by repeat (first | (with_reducible first | exact HB.out | apply zG | apply zE | apply zF | refine zH ?_ GE524.out | refine zH ?_ GE525.out) | exact HB.out)) hb)
     clear BK524
     clear BK525
     clear HB
     have BK524 := n0_
     have BK525 := n1_
     have HB := n2_
     clear n0_ n1_ n2_
     (try clear hb)
     (try clear hb2)
     (try clear hk)
     (try clear hi)
     refine hK.out _ _ ⟨(zJ BK524.out 0).trans rfl, (zJ BK524.out 1).trans rfl, (zJ BK525.out 0).trans rfl, (zJ BK525.out 1).trans rfl⟩ (fun hHeld => ?_)
     clear hK K
     refine norm_ (a' := ?_) ?_ ?_
     rotate_left
     ·show Act.put _ (some 18) _ = _
      simp only [Act.put, zL, zM, zN, i64_w, i32_w]
      rfl
     refine one_ (i := 7) (N := some 22) #[true, true, true, true, true, true, true, true, false] rfl rfl (one_of HT_.out (by kernel_rfl)) (by decide) (fun K hK => ?_)
     refine goesv_ Try.func61 (by kernel_rfl) rfl #[.int .i64 a1_0] (by rfl) rfl rfl rfl (by (try simp only [zW, yA, yB]); first | done | rfl | (simp only [zX, zZ]; rfl)) ?_
     with_reducible refine (impl_DecCmp_1.calls a1_0 t529 _ A19.out).mono ?_
     rintro e w65 ⟨rfl, hb⟩
     refine ⟨_, rfl, ?_⟩
     have n0_ := zA (zP (g := gb524) (o := .cells #[.int .i64 a0_0, .int .i64 a0_1] 26 (0, 0)) (by (with_reducible repeat (first | refine zB ?_ _ | refine zD ?_ | refine zC ?_ _)); exact BK524.out) hb)
     have n1_ := zA (zP (g := gb525) (o := .cells #[.int .i64 a1_0, .int .i64 a1_1] 26 (0, 0)) (by (with_reducible repeat (first | refine zB ?_ _ | refine zD ?_ | refine zC ?_ _)); exact BK525.out) hb)
     have n2_ := zA (zQ (by repeat (first | (with_reducible first | exact HB.out | apply zG | apply zE | apply zF | refine zH ?_ GE524.out | refine zH ?_ GE525.out) | exact HB.out)) hb)
     clear BK524
     clear BK525
     clear HB
     have BK524 := n0_
     have BK525 := n1_
     have HB := n2_
     clear n0_ n1_ n2_
     (try clear hb)
     (try clear hb2)
     (try clear hk)
     (try clear hi)
     refine hK.out _ _ ⟨(zJ BK524.out 0).trans rfl, (zJ BK524.out 1).trans rfl, (zJ BK525.out 0).trans rfl, (zJ BK525.out 1).trans rfl⟩ (fun hHeld => ?_)
     clear hK K
     refine norm_ (a' := ?_) ?_ ?_
     rotate_left
     ·show Act.put _ (some 22) _ = _
      simp only [Act.put, zL, zM, zN, i64_w, i32_w]
      rfl
     refine pure_ (i := 8) (N := some 23) (v := ?_) (a' := ?_) #[true, true, true, true, true, true, true, true, true] rfl rfl (any_of HT_.out (by kernel_rfl)) (fun _ _ _ h => h) (Or.inl ⟨by rfl, ?_⟩) ?_ ?_
     rotate_left
     ·intro w'
      go_simp
      with_reducible rfl
     rotate_left
     ·simp only [Act.put, zL, zM, zN, i64_w, i32_w]
      rfl
     refine done_ (done_of HT_.out (by kernel_rfl)) ?_
     try go_wp2
     have n0_ := zA (zD BK524.out)
     have n1_ := zA (zD BK525.out)
     have n2_ := zA (zF HB.out)
     clear BK524
     clear BK525
     clear HB
     have BK524 := n0_
     have BK525 := n1_
     have HB := n2_
     clear n0_ n1_ n2_
     refine start_ (n := 12) (S := fun w' => w'.cell? ⟨gb524, 0, none⟩ = some (.int .i64 a0_0) ∧ w'.cell? ⟨gb524, 1, none⟩ = some (.int .i64 a0_1) ∧ w'.cell? ⟨gb525, 0, none⟩ = some (.int .i64 a1_0) ∧ w'.cell? ⟨gb525, 1, none⟩ = some (.int .i64 a1_1)) (ds := []) #[false, false, false, false, false, false, false, false, false, false, false, false] (by kernel_rfl) rfl rfl ⟨(zJ BK524.out 0).trans rfl, (zJ BK524.out 1).trans rfl, (zJ BK525.out 0).trans rfl, (zJ BK525.out 1).trans rfl⟩ (fun hHeld => ?_); refine with_tabW impl_DecCmp.tab5 impl_DecCmp.bits5 (fun HT_ HW_ => ?_)
     generalize w65.drew = w66 at BK524 BK525 HB hHeld ⊢
     refine pure_ (i := 0) (N := some 24) (v := ?_) (a' := ?_) #[true, false, false, false, false, false, false, false, false, false, false, false] rfl rfl (any_of HT_.out (by kernel_rfl)) (fun _ _ _ h => h) (Or.inl ⟨by rfl, ?_⟩) ?_ ?_
     rotate_left
     ·intro w'
      go_simp
      with_reducible rfl
     rotate_left
     ·simp only [Act.put, zL, zM, zN, i64_w, i32_w]
      rfl
     refine pure_ (i := 1) (N := some 25) (v := ?_) (a' := ?_) #[true, true, false, false, false, false, false, false, false, false, false, false] rfl rfl (any_of HT_.out (by kernel_rfl)) (fun _ _ _ h => h) (Or.inl ⟨by rfl, ?_⟩) ?_ ?_
     rotate_left
     ·intro w'
      go_simp
      with_reducible rfl
     rotate_left
     ·simp only [Act.put, zL, zM, zN, i64_w, i32_w]
      rfl
     refine pure_ (i := 2) (N := some 26) (v := ?_) (a' := ?_) #[true, true, true, false, false, false, false, false, false, false, false, false] rfl rfl (any_of HT_.out (by kernel_rfl)) (fun _ _ _ h => h) (Or.inl ⟨by rfl, ?_⟩) ?_ ?_
     rotate_left
     ·intro w'
      go_simp
      with_reducible rfl
     rotate_left
     ·simp only [Act.put, zL, zM, zN, i64_w, i32_w]
      rfl
     refine pure_ (i := 5) (N := some 29) (v := ?_) (a' := ?_) #[true, true, true, false, false, true, false, false, false, false, false, false] rfl rfl (any_of HT_.out (by kernel_rfl)) (fun _ _ _ h => h) (Or.inl ⟨by rfl, ?_⟩) ?_ ?_
     rotate_left
     ·intro w'
      go_simp
      with_reducible rfl
     rotate_left
     ·simp only [Act.put, zL, zM, zN, i64_w, i32_w]
      rfl
     refine pure_ (i := 6) (N := some 30) (v := ?_) (a' := ?_) #[true, true, true, false, false, true, true, false, false, false, false, false] rfl rfl (any_of HT_.out (by kernel_rfl)) (fun _ _ _ h => h) (Or.inl ⟨by rfl, ?_⟩) ?_ ?_
     rotate_left
     ·intro w'
      go_simp
      with_reducible rfl
     rotate_left
     ·simp only [Act.put, zL, zM, zN, i64_w, i32_w]
      rfl
     refine take_ (i := 3) (N := some 27) (v := ?_) (a' := ?_) #[true, true, true, true, false, true, true, false, false, false, false, false] rfl rfl (take_ofW HT_.out HW_.out (by kernel_rfl)) (fun _ _ _ h => h) (Or.inl ⟨by rfl, ?_⟩) hHeld ?_ ?_
     rotate_left
     ·rintro w' ⟨s0, s1, s2, s3⟩
      go_simp
      with_reducible rfl
     rotate_left
     ·simp only [Act.put, zL, zM, zN, i64_w, i32_w]
      rfl
     refine take_ (i := 7) (N := some 31) (v := ?_) (a' := ?_) #[true, true, true, true, false, true, true, true, false, false, false, false] rfl rfl (take_ofW HT_.out HW_.out (by kernel_rfl)) (fun _ _ _ h => h) (Or.inl ⟨by rfl, ?_⟩) hHeld ?_ ?_
     rotate_left
     ·rintro w' ⟨s0, s1, s2, s3⟩
      go_simp
      with_reducible rfl
     rotate_left
     ·simp only [Act.put, zL, zM, zN, i64_w, i32_w]
      rfl
     refine one_ (i := 4) (N := some 28) #[true, true, true, true, true, true, true, true, false, false, false, false] rfl rfl (one_of HT_.out (by kernel_rfl)) (by decide) (fun K hK => ?_)
     refine goesv_ Try.func61 (by kernel_rfl) rfl #[.int .i64 a0_0] (by rfl) rfl rfl rfl (by (try simp only [zW, yA, yB]); first | done | rfl | (simp only [zX, zZ]; rfl)) ?_
     with_reducible refine (impl_DecCmp_1.calls a0_0 t530 _ A60.out).mono ?_
     rintro e w67 ⟨rfl, hb⟩
     refine ⟨_, rfl, ?_⟩
     have n0_ := zA (zP (g := gb524) (o := .cells #[.int .i64 a0_0, .int .i64 a0_1] 26 (0, 0)) (by (with_reducible repeat (first | refine zB ?_ _ | refine zD ?_ | refine zC ?_ _)); exact BK524.out) hb)
     have n1_ := zA (zP (g := gb525) (o := .cells #[.int .i64 a1_0, .int .i64 a1_1] 26 (0, 0)) (by (with_reducible repeat (first | refine zB ?_ _ | refine zD ?_ | refine zC ?_ _)); exact BK525.out) hb)
     have n2_ := zA (zQ (by repeat (first | (with_reducible first | exact HB.out | apply zG | apply zE | apply zF | refine zH ?_ GE524.out | refine zH ?_ GE525.out) | exact HB.out)) hb)
     clear BK524
     clear BK525
     clear HB
     have BK524 := n0_
     have BK525 := n1_
     have HB := n2_
     clear n0_ n1_ n2_
     (try clear hb)
     (try clear hb2)
     (try clear hk)
     (try clear hi)
     refine hK.out _ _ ⟨(zJ BK524.out 0).trans rfl, (zJ BK524.out 1).trans rfl, (zJ BK525.out 0).trans rfl, (zJ BK525.out 1).trans rfl⟩ (fun hHeld => ?_)
     clear hK K
     refine norm_ (a' := ?_) ?_ ?_
     rotate_left
     ·show Act.put _ (some 28) _ = _
      simp only [Act.put, zL, zM, zN, i64_w, i32_w]
      rfl
     refine one_ (i := 8) (N := some 32) #[true, true, true, true, true, true, true, true, true, false, false, false] rfl rfl (one_of HT_.out (by kernel_rfl)) (by decide) (fun K hK => ?_)
     refine goesv_ Try.func61 (by kernel_rfl) rfl #[.int .i64 a1_0] (by rfl) rfl rfl rfl (by (try simp only [zW, yA, yB]); first | done | rfl | (simp only [zX, zZ]; rfl)) ?_
     with_reducible refine (impl_DecCmp_1.calls a1_0 t531 _ A61.out).mono ?_
     rintro e w68 ⟨rfl, hb⟩
     refine ⟨_, rfl, ?_⟩
     have n0_ := zA (zP (g := gb524) (o := .cells #[.int .i64 a0_0, .int .i64 a0_1] 26 (0, 0)) (by (with_reducible repeat (first | refine zB ?_ _ | refine zD ?_ | refine zC ?_ _)); exact BK524.out) hb)
     have n1_ := zA (zP (g := gb525) (o := .cells #[.int .i64 a1_0, .int .i64 a1_1] 26 (0, 0)) (by (with_reducible repeat (first | refine zB ?_ _ | refine zD ?_ | refine zC ?_ _)); exact BK525.out) hb)
     have n2_ := zA (zQ (by repeat (first | (with_reducible first | exact HB.out | apply zG | apply zE | apply zF | refine zH ?_ GE524.out | refine zH ?_ GE525.out) | exact HB.out)) hb)
     clear BK524
     clear BK525
     clear HB
     have BK524 := n0_
     have BK525 := n1_
     have HB := n2_
     clear n0_ n1_ n2_
     (try clear hb)
     (try clear hb2)
     (try clear hk)
     (try clear hi)
     refine hK.out _ _ ⟨(zJ BK524.out 0).trans rfl, (zJ BK524.out 1).trans rfl, (zJ BK525.out 0).trans rfl, (zJ BK525.out 1).trans rfl⟩ (fun hHeld => ?_)
     clear hK K
     refine norm_ (a' := ?_) ?_ ?_
     rotate_left
     ·show Act.put _ (some 32) _ = _
      simp only [Act.put, zL, zM, zN, i64_w, i32_w]
      rfl
     refine pure_ (i := 9) (N := some 33) (v := ?_) (a' := ?_) #[true, true, true, true, true, true, true, true, true, true, false, false] rfl rfl (any_of HT_.out (by kernel_rfl)) (fun _ _ _ h => h) (Or.inl ⟨by rfl, ?_⟩) ?_ ?_
     rotate_left
     ·intro w'
      go_simp
      with_reducible rfl
     rotate_left
     ·simp only [Act.put, zL, zM, zN, i64_w, i32_w]
      rfl
     refine one_ (i := 10) (N := some 34) #[true, true, true, true, true, true, true, true, true, true, true, false] rfl rfl (one_of HT_.out (by kernel_rfl)) (by decide) (fun K hK => ?_)
     refine goesv_ Try.func61 (by kernel_rfl) rfl #[.int .i64 (wrap64 (t530 - t531))] (by rfl) rfl rfl rfl (by (try simp only [zW, yA, yB]); first | done | rfl | (simp only [zX, zZ]; rfl)) ?_
     with_reducible refine (impl_DecCmp_1.calls (wrap64 (t530 - t531)) t532 _ A62.out).mono ?_
     rintro e w69 ⟨rfl, hb⟩
     refine ⟨_, rfl, ?_⟩
     have n0_ := zA (zP (g := gb524) (o := .cells #[.int .i64 a0_0, .int .i64 a0_1] 26 (0, 0)) (by (with_reducible repeat (first | refine zB ?_ _ | refine zD ?_ | refine zC ?_ _)); exact BK524.out) hb)
     have n1_ := zA (zP (g := gb525) (o := .cells #[.int .i64 a1_0, .int .i64 a1_1] 26 (0, 0)) (by (with_reducible repeat (first | refine zB ?_ _ | refine zD ?_ | refine zC ?_ _)); exact BK525.out) hb)
     have n2_ := zA (zQ (by repeat (first | (with_reducible first | exact HB.out | apply zG | apply zE | apply zF | refine zH ?_ GE524.out | refine zH ?_ GE525.out) | exact HB.out)) hb)
     clear BK524
     clear BK525
     clear HB
     have BK524 := n0_
     have BK525 := n1_
     have HB := n2_
     clear n0_ n1_ n2_
     (try clear hb)
     (try clear hb2)
     (try clear hk)
     (try clear hi)
     refine hK.out _ _ ⟨(zJ BK524.out 0).trans rfl, (zJ BK524.out 1).trans rfl, (zJ BK525.out 0).trans rfl, (zJ BK525.out 1).trans rfl⟩ (fun hHeld => ?_)
     clear hK K
     refine norm_ (a' := ?_) ?_ ?_
     rotate_left
     ·show Act.put _ (some 34) _ = _
      simp only [Act.put, zL, zM, zN, i64_w, i32_w]
      rfl
     refine pure_ (i := 11) (N := some 4) (v := ?_) (a' := ?_) #[true, true, true, true, true, true, true, true, true, true, true, true] rfl rfl (any_of HT_.out (by kernel_rfl)) (fun _ _ _ h => h) (Or.inl ⟨by rfl, ?_⟩) ?_ ?_
     rotate_left
     ·intro w'
      go_simp
      with_reducible rfl
     rotate_left
     ·simp only [Act.put, zL, zM, zN, i64_w, i32_w]
      rfl
     refine done_ (done_of HT_.out (by kernel_rfl)) ?_
     try go_wp2
     go_ret
     exact ⟨by first | rfl | (simp [errW_none, errW_some] <;> rfl) | (simp [*, errW_none, errW_some] <;> rfl), by repeat (first | (with_reducible first | exact HB.out | apply zG | apply zE | apply zF | refine zH ?_ GE524.out | refine zH ?_ GE525.out) | exact HB.out)⟩

end Go.Proofs.Ytmoaolcioihjnaa.Q

namespace Go.Proofs.Ytmoaolcioihjnaa.Q
open Go.RowKit Go.Proofs.YtmoaolcioihjnaaW.PrintWords Go.Proofs.YtmoaolcioihjnaaW.PrintLast Go.Proofs.YtmoaolcioihjnaaW.PrintMore Go.Proofs.YtmoaolcioihjnaaX
attribute [local go_sem] max2_int min2_int max_two min_two max_three min_three max_four min_four   -- for this text's walks alone
set_option linter.unusedVariables false
set_option linter.unusedSimpArgs false

def laws_chAbs.f (a0_0 : Int) (a0_1 : Int) : Option (Int × Int) := if a0_0 < 0 then (some (wrap64 (-a0_0), a0_1)) else (some (a0_0, a0_1))
set_option maxHeartbeats 8000000 in
set_option maxRecDepth 100000 in
theorem laws_chAbs.calls (a0_0 : Int) (a0_1 : Int) (r1 : Int) (r2 : Int) (w : World) (h : laws_chAbs.f a0_0 a0_1 = some (r1, r2)) :
  Calls Try.prog 39 #[.agg #[.int .i64 a0_0, .int .i64 a0_1]] w fun e w' => e = .returned (.agg #[.int .i64 r1, .int .i64 r2]) ∧ Below w.heap.size w w' := by
 have hu26 := Try.underlying26
 have HB := zA (Below.refl w.heap.size w)
 have H : (if a0_0 < 0 then (some (wrap64 (-a0_0), a0_1)) else (some (a0_0, a0_1))) = some (r1, r2) := h
 clear h
 by_cases c2 : a0_0 < 0
 ·rw [if_pos c2] at H
  have c2b0 : decide (a0_0 < 0) = true := decide_eq_true c2
  clear c2
  simp only [Option.some.injEq, Prod.mk.injEq] at H
  obtain ⟨rfl, rfl⟩ := H
  go_enter Try.func39, Try.ntmps39
  go_wp2_with (first | ((with_reducible refine zS (N := 1) rfl ?_); refine zV ?hg (N := 1) ?hd (cs := #[.int .i64 a0_0, .int .i64 a0_1]) (t := 26) ?hr ?_; (case hd => rfl); (case hg => rfl); (case hr => first | (go_simp; done) | (go_simp; rfl)); intro gb667 hg w3 hbox hb; have n0_ := zA (zQ (by repeat (first | (with_reducible first | exact HB.out | apply zG | apply zE | apply zF) | exact HB.out)) hb); have n1_ := zA (hbox); have n2_ := zA ((by rw [hg]; exact (zR (by repeat (first | (with_reducible first | exact HB.out | apply zG | apply zE | apply zF) | exact HB.out))) : w.heap.size ≤ gb667)); have n3_ := zA ((by rw [hg]; exact (zR (by repeat (first | (with_reducible first | exact HB.out | apply zG | apply zE | apply zF) | exact HB.out))) : w.heap.size ≤ gb667)); clear HB; have HB := n0_; have BK667 := n1_; have GW667 := n2_; have GE667 := n3_; clear n0_ n1_ n2_ n3_; clear hb hbox hg) | ((with_reducible refine zS (N := 2) rfl ?_); refine zV ?hg (N := 2) ?hd (cs := #[.int .i64 0, .int .i64 0]) (t := 26) ?hr ?_; (case hd => rfl); (case hg => rfl); (case hr => first | (go_simp; done) | (go_simp; rfl)); intro gb668 hg w4 hbox hb; have n0_ := zA (zP (g := gb667) (o := .cells #[.int .i64 a0_0, .int .i64 a0_1] 26 (0, 0)) (by (with_reducible repeat (first | refine zB ?_ _ | refine zD ?_ | refine zC ?_ _)); exact BK667.out) hb); have n1_ := zA (zQ (by repeat (first | (with_reducible first | exact HB.out | apply zG | apply zE | apply zF | refine zH ?_ GE667.out) | exact HB.out)) hb); have n2_ := zA (hbox); have n3_ := zA ((by rw [hg]; exact (zR (by repeat (first | (with_reducible first | exact HB.out | apply zG | apply zE | apply zF | refine zH ?_ GE667.out) | exact HB.out))) : w.heap.size ≤ gb668)); have n4_ := zA ((by rw [hg]; exact (zR (by repeat (first | (with_reducible first | exact HB.out | apply zG | apply zE | apply zF | refine zH ?_ GE667.out) | exact HB.out))) : w.heap.size ≤ gb668)); have n5_ := zA ((by rw [hg]; exact Nat.ne_of_lt (blk_lt (g := gb667) (o := .cells #[.int .i64 a0_0, .int .i64 a0_1] 26 (0, 0)) (by (with_reducible repeat (first | refine zB ?_ _ | refine zD ?_ | refine zC ?_ _)); exact BK667.out)) : gb667 ≠ gb668)); have n6_ := zA ((by rw [hg]; exact Nat.ne_of_gt (blk_lt (g := gb667) (o := .cells #[.int .i64 a0_0, .int .i64 a0_1] 26 (0, 0)) (by (with_reducible repeat (first | refine zB ?_ _ | refine zD ?_ | refine zC ?_ _)); exact BK667.out)) : gb668 ≠ gb667)); clear BK667; clear HB; have BK667 := n0_; have HB := n1_; have BK668 := n2_; have GW668 := n3_; have GE668 := n4_; have NB667_668 := n5_; have NB668_667 := n6_; clear n0_ n1_ n2_ n3_ n4_ n5_ n6_; clear hb hbox hg; have hnb5 := NB667_668.out; have hnc5 := NB668_667.out; have hcz6_0 : w4.cell? ⟨gb667, 0, none⟩ = some (.int .i64 a0_0) := (zJ BK667.out 0).trans rfl; have hcz6_1 : w4.cell? ⟨gb667, 1, none⟩ = some (.int .i64 a0_1) := (zJ BK667.out 1).trans rfl; have hfz6_0 := zK BK667.out 0; have hfz6_1 := zK BK667.out 1; have hcz7_0 : w4.cell? ⟨gb668, 0, none⟩ = some (.int .i64 0) := (zJ BK668.out 0).trans rfl; have hcz7_1 : w4.cell? ⟨gb668, 1, none⟩ = some (.int .i64 0) := (zJ BK668.out 1).trans rfl; have hfz7_0 := zK BK668.out 0; have hfz7_1 := zK BK668.out 1))
  refine bodyPost_ret (results_cell_row rfl _ _ gb668 26 #[.int .i64 (wrap64 (-a0_0)), .int .i64 a0_1] (0, 0) _ rfl (by (with_reducible repeat (first | refine zB ?_ _ | refine zD ?_ | refine zC ?_ _)); refine blk_put (cs := #[.int .i64 (wrap64 (-a0_0)), .int .i64 0]) ?_ 1 _ rfl; (with_reducible repeat (first | refine zB ?_ _ | refine zD ?_ | refine zC ?_ _)); refine blk_put (cs := #[.int .i64 0, .int .i64 0]) ?_ 0 _ rfl; (with_reducible repeat (first | refine zB ?_ _ | refine zD ?_ | refine zC ?_ _)); exact BK668.out) Try.underlying26 rfl (by kernel_rfl)) rfl ?_
  exact ⟨by first | rfl | (simp [errW_none, errW_some] <;> rfl) | (simp [*, errW_none, errW_some] <;> rfl), by repeat (first | (with_reducible first | exact HB.out | apply zG | apply zE | apply zF | refine zH ?_ GE667.out | refine zH ?_ GE668.out) | exact HB.out)⟩
 ·rw [if_neg c2] at H
  have c2b0 : decide (a0_0 < 0) = false := decide_eq_false c2
  clear c2
  simp only [Option.some.injEq, Prod.mk.injEq] at H
  obtain ⟨rfl, rfl⟩ := H
  go_enter Try.func39, Try.ntmps39
  go_wp2_with (first | ((with_reducible refine zS (N := 1) rfl ?_); refine zV ?hg (N := 1) ?hd (cs := #[.int .i64 a0_0, .int .i64 a0_1]) (t := 26) ?hr ?_; (case hd => rfl); (case hg => rfl); (case hr => first | (go_simp; done) | (go_simp; rfl)); intro gb667 hg w8 hbox hb; have n0_ := zA (zQ (by repeat (first | (with_reducible first | exact HB.out | apply zG | apply zE | apply zF) | exact HB.out)) hb); have n1_ := zA (hbox); have n2_ := zA ((by rw [hg]; exact (zR (by repeat (first | (with_reducible first | exact HB.out | apply zG | apply zE | apply zF) | exact HB.out))) : w.heap.size ≤ gb667)); have n3_ := zA ((by rw [hg]; exact (zR (by repeat (first | (with_reducible first | exact HB.out | apply zG | apply zE | apply zF) | exact HB.out))) : w.heap.size ≤ gb667)); clear HB; have HB := n0_; have BK667 := n1_; have GW667 := n2_; have GE667 := n3_; clear n0_ n1_ n2_ n3_; clear hb hbox hg) | ((with_reducible refine zS (N := 2) rfl ?_); refine zV ?hg (N := 2) ?hd (cs := #[.int .i64 0, .int .i64 0]) (t := 26) ?hr ?_; (case hd => rfl); (case hg => rfl); (case hr => first | (go_simp; done) | (go_simp; rfl)); intro gb668 hg w9 hbox hb; have n0_ := zA (zP (g := gb667) (o := .cells #[.int .i64 a0_0, .int .i64 a0_1] 26 (0, 0)) (by (with_reducible repeat (first | refine zB ?_ _ | refine zD ?_ | refine zC ?_ _)); exact BK667.out) hb); have n1_ := zA (zQ (by repeat (first | (with_reducible first | exact HB.out | apply zG | apply zE | apply zF | refine zH ?_ GE667.out) | exact HB.out)) hb); have n2_ := zA (hbox); have n3_ := zA ((by rw [hg]; exact (zR (by repeat (first | (with_reducible first | exact HB.out | apply zG | apply zE | apply zF | refine zH ?_ GE667.out) | exact HB.out))) : w.heap.size ≤ gb668)); have n4_ := zA ((by rw [hg]; exact (zR (by repeat (first | (with_reducible first | exact HB.out | apply zG | apply zE | apply zF | refine zH ?_ GE667.out) | exact HB.out))) : w.heap.size ≤ gb668)); have n5_ := zA ((by rw [hg]; exact Nat.ne_of_lt (blk_lt (g := gb667) (o := .cells #[.int .i64 a0_0, .int .i64 a0_1] 26 (0, 0)) (by (with_reducible repeat (first | refine zB ?_ _ | refine zD ?_ | refine zC ?_ _)); exact BK667.out)) : gb667 ≠ gb668)); have n6_ := zA ((by rw [hg]; exact Nat.ne_of_gt (blk_lt (g := gb667) (o := .cells #[.int .i64 a0_0, .int .i64 a0_1] 26 (0, 0)) (by (with_reducible repeat (first | refine zB ?_ _ | refine zD ?_ | refine zC ?_ _)); exact BK667.out)) : gb668 ≠ gb667)); clear BK667; clear HB; have BK667 := n0_; have HB := n1_; have BK668 := n2_; have GW668 := n3_; have GE668 := n4_; have NB667_668 := n5_; have NB668_667 := n6_; clear n0_ n1_ n2_ n3_ n4_ n5_ n6_; clear hb hbox hg; have hnb10 := NB667_668.out; have hnc10 := NB668_667.out; have hcz11_0 : w9.cell? ⟨gb667, 0, none⟩ = some (.int .i64 a0_0) := (zJ BK667.out 0).trans rfl; have hcz11_1 : w9.cell? ⟨gb667, 1, none⟩ = some (.int .i64 a0_1) := (zJ BK667.out 1).trans rfl; have hfz11_0 := zK BK667.out 0; have hfz11_1 := zK BK667.out 1; have hcz12_0 : w9.cell? ⟨gb668, 0, none⟩ = some (.int .i64 0) := (zJ BK668.out 0).trans rfl; have hcz12_1 : w9.cell? ⟨gb668, 1, none⟩ = some (.int .i64 0) := (zJ BK668.out 1).trans rfl; have hfz12_0 := zK BK668.out 0; have hfz12_1 := zK BK668.out 1))
  refine bodyPost_ret (results_cell_row rfl _ _ gb668 26 #[.int .i64 a0_0, .int .i64 a0_1] (0, 0) _ rfl (by (with_reducible repeat (first | refine zB ?_ _ | refine zD ?_ | refine zC ?_ _)); refine blk_put (cs := #[.int .i64 a0_0, .int .i64 0]) ?_ 1 _ rfl; (with_reducible repeat (first | refine zB ?_ _ | refine zD ?_ | refine zC ?_ _)); refine blk_put (cs := #[.int .i64 0, .int .i64 0]) ?_ 0 _ rfl; (with_reducible repeat (first | refine zB ?_ _ | refine zD ?_ | refine zC ?_ _)); exact BK668.out) Try.underlying26 rfl (by kernel_rfl)) rfl ?_
  exact ⟨by first | rfl | (simp [errW_none, errW_some] <;> rfl) | (simp [*, errW_none, errW_some] <;> rfl), by repeat (first | (with_reducible first | exact HB.out | apply zG | apply zE | apply zF | refine zH ?_ GE667.out | refine zH ?_ GE668.out) | exact HB.out)⟩

end Go.Proofs.Ytmoaolcioihjnaa.Q

namespace Go.Proofs.Ytmoaolcioihjnaa.Q
open Go.RowKit Go.Proofs.YtmoaolcioihjnaaW.PrintWords Go.Proofs.YtmoaolcioihjnaaW.PrintLast Go.Proofs.YtmoaolcioihjnaaW.PrintMore Go.Proofs.YtmoaolcioihjnaaX
attribute [local go_sem] max2_int min2_int max_two min_two max_three min_three max_four min_four   -- for this text's walks alone
set_option linter.unusedVariables false
set_option linter.unusedSimpArgs false

/-- A state of type 61 at block g of W; what its slices lead to came in by w0. -/
def IsS61 (w0 W : World) (g : Nat) (f0 : List Int) (f1 : Int) : Prop := ∃ A0 c0, W.heap[g]? = some (.cells #[.slice A0 f0.length c0, .int .i64 f1] 61 (0, 0)) ∧ w0.heap.size ≤ g ∧ Kd.C (Kd.int .u8) w0 A0 f0.length f0
theorem IsS61.grown {w0 W : World} {g : Nat} {f0 : List Int} {f1 : Int} {W1 : World} {row : Option Nat} (h : IsS61 w0 W g f0 f1) (hw : W.grownBy W1 row) (hne : some g ≠ row) : IsS61 w0 W1 g f0 f1 := by
 obtain ⟨A0, c0, hb, hg, hr0⟩ := h
 exact ⟨A0, c0, blk_grown hb hw hne, hg, hr0⟩
theorem IsS61.own_neN {w0 W : World} {g : Nat} {f0 : List Int} {f1 : Int} {α : Type} {d : Kd α} {e : Nat} {base : Nat} {ok : Nat → Prop} {v : Value} {xs : List α} (h : IsS61 w0 W g f0 f1) (ho : Kd.N d e W base ok v xs) (ht : e ≠ 61) : some g ≠ v.ownBlock := by
 obtain ⟨A0, c0, hb, hg, hr0⟩ := h
 exact Kd.N_ne ho hb ht
theorem IsS61.fresh {w0 W : World} {g : Nat} {f0 : List Int} {f1 : Int} (h : IsS61 w0 W g f0 f1) : ∀ k, W.heap.size ≤ k → k ≠ g := by
 obtain ⟨A0, c0, hb, hg, hr0⟩ := h
 exact Kd.freshB hb
theorem IsS61.kept {w0 W : World} {g : Nat} {f0 : List Int} {f1 : Int} {W1 : World} {S : Nat → Prop} (h : IsS61 w0 W g f0 f1) (hk : Kept W W1 S) (hne : ¬ S g) : IsS61 w0 W1 g f0 f1 := by
 obtain ⟨A0, c0, hb, hg, hr0⟩ := h
 exact ⟨A0, c0, blk_kept hb hk hne, hg, hr0⟩
theorem IsS61.below {w0 W : World} {g : Nat} {f0 : List Int} {f1 : Int} {W1 : World} (h : IsS61 w0 W g f0 f1) (hw : Below W.heap.size W W1) : IsS61 w0 W1 g f0 f1 := h.grown (grown_of_below hw none) (by simp)
theorem IsS61.alloc {w0 W : World} {g : Nat} {f0 : List Int} {f1 : Int} (h : IsS61 w0 W g f0 f1) (o : Obj) : IsS61 w0 (W.alloc o) g f0 f1 := h.below (zG (Below.refl _ _) o)
theorem IsS61.drewN {w0 W : World} {g : Nat} {f0 : List Int} {f1 : Int} (h : IsS61 w0 W g f0 f1) (m : Nat) : IsS61 w0 (W.drewN m) g f0 f1 := h
theorem IsS61.drew {w0 W : World} {g : Nat} {f0 : List Int} {f1 : Int} (h : IsS61 w0 W g f0 f1) : IsS61 w0 W.drew g f0 f1 := h
theorem IsS61.at_ {w0 W : World} {g : Nat} {f0 : List Int} {f1 : Int} {w' : World} {m : Nat} (hq : W.drewN m = w') (h : IsS61 w0 W g f0 f1) : IsS61 w0 w' g f0 f1 := by subst hq; exact IsS61.drewN h m
theorem IsS61.apart {w0 W : World} {g : Nat} {f0 : List Int} {f1 : Int} {α : Type} {d : Kd α} {e : Nat} {base : Nat} {ok : Nat → Prop} {v : Value} {xs : List α} (h : IsS61 w0 W g f0 f1) (ho : d.R e W base ok v xs) (ht : ∀ q, q ∈ e :: d.E → q ≠ 61) : d.R e W base (fun k => ok k ∧ k ≠ g) v xs := by
 obtain ⟨A0, c0, hb, hg, hr0⟩ := h
 exact Kd.R_types ho hb ht
theorem IsS61.own_ne {w0 W : World} {g : Nat} {f0 : List Int} {f1 : Int} {α : Type} {d : Kd α} {e : Nat} {base : Nat} {ok : Nat → Prop} {v : Value} {xs : List α} (h : IsS61 w0 W g f0 f1) (ho : d.R e W base ok v xs) (ht : e ≠ 61) : some g ≠ v.ownBlock := by
 obtain ⟨A0, c0, hb, hg, hr0⟩ := h
 exact Kd.R_ne ho hb ht
theorem IsS61.apartQ {w0 W : World} {g : Nat} {f0 : List Int} {f1 : Int} {α : Type} {d : Kd α} {e : Nat} {base : Nat} {ok : Nat → Prop} {v : Value} {xs : List α} (h : IsS61 w0 W g f0 f1) (ho : d.Q e W base ok v xs) (ht : ∀ q, q ∈ e :: d.E → q ≠ 61) : d.Q e W base (fun k => ok k ∧ k ≠ g) v xs := by
 obtain ⟨A0, c0, hb, hg, hr0⟩ := h
 exact Kd.Q_types ho hb ht
theorem IsS61.own_neQ {w0 W : World} {g : Nat} {f0 : List Int} {f1 : Int} {α : Type} {d : Kd α} {e : Nat} {base : Nat} {ok : Nat → Prop} {v : Value} {xs : List α} (h : IsS61 w0 W g f0 f1) (ho : d.Q e W base ok v xs) (ht : e ≠ 61) : some g ≠ v.ownBlock := by
 obtain ⟨A0, c0, hb, hg, hr0⟩ := h
 exact Kd.Q_ne ho hb ht
theorem IsS61.apartS {w0 W : World} {g : Nat} {f0 : List Int} {f1 : Int} {α : Type} {d : Kd α} {e : Nat} {base : Nat} {ok : Nat → Prop} {v : Value} {xs : List α} (h : IsS61 w0 W g f0 f1) (ho : d.S e W base ok v xs) (ht : ∀ q, q ∈ e :: d.E → q ≠ 61) : d.S e W base (fun k => ok k ∧ k ≠ g) v xs := by
 obtain ⟨A0, c0, hb, hg, hr0⟩ := h
 exact Kd.S_types ho hb ht
theorem IsS61.own_neS {w0 W : World} {g : Nat} {f0 : List Int} {f1 : Int} {α : Type} {d : Kd α} {e : Nat} {base : Nat} {ok : Nat → Prop} {v : Value} {xs : List α} (h : IsS61 w0 W g f0 f1) (ho : d.S e W base ok v xs) (ht : e ≠ 61) : some g ≠ v.ownBlock := by
 obtain ⟨A0, c0, hb, hg, hr0⟩ := h
 exact Kd.S_ne ho hb ht
theorem IsS61.lt {w0 W : World} {g : Nat} {f0 : List Int} {f1 : Int} (h : IsS61 w0 W g f0 f1) : g < W.heap.size := by
 obtain ⟨A0, c0, hb, hg, hr0⟩ := h
 exact blk_lt hb
theorem IsS61.ge {w0 W : World} {g : Nat} {f0 : List Int} {f1 : Int} (h : IsS61 w0 W g f0 f1) : w0.heap.size ≤ g := by
 obtain ⟨A0, c0, hb, hg, hr0⟩ := h
 exact hg
theorem IsS61.ne_blk {w0 W : World} {g : Nat} {f0 : List Int} {f1 : Int} {a : Nat} {cs : Array Value} {t : TypeId} {fr : Nat × Nat} (h : IsS61 w0 W g f0 f1) (hb2 : W.heap[a]? = some (.cells cs t fr)) (ht : t ≠ 61) : g ≠ a := by
 obtain ⟨A0, c0, hb, hg, hr0⟩ := h
 rintro rfl
 rw [hb] at hb2
 injection hb2 with hb2
 injection hb2 with _ ht2
 exact ht ht2.symm
theorem IsS61.far {w0 W : World} {g : Nat} {f0 : List Int} {f1 : Int} {p : Addr} (h : IsS61 w0 W g f0 f1) (hne : g ≠ p.block) (u : Value) : IsS61 w0 (W.setCell p u) g f0 f1 := by
 obtain ⟨A0, c0, hb, hg, hr0⟩ := h
 exact ⟨A0, c0, blk_far hb hne u, hg, hr0⟩
theorem cellS61_0 {W : World} {g : Nat} {A0 : Option Addr} {c0 : Nat} {f0 : List Int} {f1 : Int} (h : W.heap[g]? = some (.cells #[.slice A0 f0.length c0, .int .i64 f1] 61 (0, 0))) : W.cell? ⟨g, 0, none⟩ = some (.slice A0 f0.length c0) := (zJ h 0).trans rfl
theorem cellS61_1 {W : World} {g : Nat} {A0 : Option Addr} {c0 : Nat} {f0 : List Int} {f1 : Int} (h : W.heap[g]? = some (.cells #[.slice A0 f0.length c0, .int .i64 f1] 61 (0, 0))) : W.cell? ⟨g, 1, none⟩ = some (.int .i64 f1) := (zJ h 1).trans rfl
theorem IsS61.set_1 {w0 W : World} {g : Nat} {f0 : List Int} {f1 : Int} (h : IsS61 w0 W g f0 f1) (x : Int) : IsS61 w0 (W.setCell ⟨g, 1, none⟩ (.int .i64 x)) g f0 x := by
 obtain ⟨A0, c0, hb, hg, hr0⟩ := h
 exact ⟨A0, c0, by simpa using blk_set hb 1 (.int .i64 x), hg, hr0⟩
theorem IsS61.new (w0 W : World) (A0 : Option Addr) (c0 : Nat) (f0 : List Int) (f1 : Int) (hB : Below w0.heap.size w0 W) (hr0 : Kd.C (Kd.int .u8) w0 A0 f0.length f0) : IsS61 w0 (W.alloc (.cells #[.slice A0 f0.length c0, .int .i64 f1] 61)) W.heap.size f0 f1 := ⟨A0, c0, by simpa using heap_alloc_new W _, hB.size, hr0⟩

def spec_l1Open.f (l0 : List Int) : Option (List Int × Int) := if (l0.length : Int) > 2000 then (if 2000 ≤ (l0.length : Int) then (some (l0.take 2000, 0)) else (none)) else (some (l0, 0))
set_option maxHeartbeats 8000000 in
set_option maxRecDepth 100000 in
theorem spec_l1Open.calls (A0 : Option Addr) (c0 : Nat) (l0 : List Int) (r1 : List Int) (r2 : Int) (w0 w : World) (hB : Below w0.heap.size w0 w) (hr0 : Kd.C (Kd.int .u8) w0 A0 l0.length l0) (hc0 : l0.length ≤ c0) (h : spec_l1Open.f l0 = some (r1, r2)) :
  Calls Try.prog 43 #[.slice A0 l0.length c0] w fun e w' => ∃ g_ : Nat, e = .returned (.pointer (some ⟨g_, 0, none⟩)) ∧ IsS61 w0 w' g_ r1 r2 ∧ Below w0.heap.size w0 w' ∧ Below w.heap.size w w' := by
 have hu61 := Try.underlying61
 have HR0 := zA hr0
 have HC0 := zA hc0
 clear hr0 hc0
 have HBW := zA (Below.refl w.heap.size w)
 have HW0 := zA hB.size
 have HB := zA hB
 clear hB
 have H : (if (l0.length : Int) > 2000 then (if 2000 ≤ (l0.length : Int) then (some (l0.take 2000, 0)) else (none)) else (some (l0, 0))) = some (r1, r2) := h
 clear h
 by_cases c2 : (l0.length : Int) > 2000
 ·rw [if_pos c2] at H
  have c2b0 : decide (2000 < (l0.length : Int)) = true := decide_eq_true c2
  have c2b1 : decide (2000 < l0.length) = true := decide_eq_true (by omega)
  clear c2
  by_cases c3 : 2000 ≤ (l0.length : Int)
  ·rw [if_pos c3] at H
   have c3b0 := eq_true c3
   have c3b1 : decide (2000 ≤ (l0.length : Int)) = true := decide_eq_true c3
   clear c3
   simp only [Option.some.injEq, Prod.mk.injEq] at H
   obtain ⟨rfl, rfl⟩ := H
   obtain ⟨i04, hi04, _, hsz4, _⟩ := info_parts info5
   obtain ⟨hcut4, hA4, hC4⟩ := print_take_of (P := Try.prog) (Value.int .u8) 0 22 5 .i64 Try.underlying22 hi04 hsz4 A0 c0 l0 2000 (by omega) (of_decide_eq_true (by first | (with_reducible assumption) | assumption)) HC0.out
   have HR101 := zA (Kd.C_of_reads (h1 := fun _ => rfl) (hA4 _ (Kd.reads_of_C HR0.out)))
   have HC101 := zA hC4
   clear hA4 hC4 hi04 hsz4
   go_enter Try.func43, Try.ntmps43
   go_wp2_with (first | ((with_reducible refine zS (N := 10) rfl ?_); refine zV ?hg (N := 10) ?hd (cs := #[.slice A0 (l0.take 2000).length c0, .int .i64 0]) (t := 61) ?hr ?_; (case hd => rfl); (case hg => rfl); (case hr => first | (go_simp; done) | (go_simp; rfl)); intro gb102 hg w5 hbox hb; have n0_ := zA (zQ HBW.out hb); have n1_ := zA (zQ (by repeat (first | (with_reducible first | exact HB.out | apply zG | apply zE | apply zF) | exact HB.out)) hb); have n2_ := zA (hbox); have n3_ := zA ((by rw [hg]; exact (zR (by repeat (first | (with_reducible first | exact HBW.out | apply zG | apply zE | apply zF) | exact HBW.out))) : w.heap.size ≤ gb102)); have n4_ := zA ((Nat.le_trans HW0.out (by rw [hg]; exact (zR (by repeat (first | (with_reducible first | exact HBW.out | apply zG | apply zE | apply zF) | exact HBW.out))) : w.heap.size ≤ gb102) : w0.heap.size ≤ gb102)); clear HBW; clear HB; have HBW := n0_; have HB := n1_; have BK102 := n2_; have GW102 := n3_; have GE102 := n4_; clear n0_ n1_ n2_ n3_ n4_; clear hb hbox hg))
   go_ret
   exact ⟨_, rfl, (show IsS61 w0 _ gb102 (l0.take 2000) 0 from ⟨_, _, by (with_reducible repeat (first | refine zB ?_ _ | refine zD ?_ | refine zC ?_ _)); exact BK102.out, GE102.out, HR101.out⟩), by repeat (first | (with_reducible first | exact HB.out | apply zG | apply zE | apply zF | refine zH ?_ GE102.out) | exact HB.out), by repeat (first | (with_reducible first | exact HBW.out | apply zG | apply zE | apply zF | refine zH ?_ GW102.out) | exact HBW.out)⟩
  ·rw [if_neg c3] at H
   exact absurd H (by simp)
 ·rw [if_neg c2] at H
  have c2b0 : decide (2000 < (l0.length : Int)) = false := decide_eq_false c2
  have c2b1 : decide (2000 < l0.length) = false := decide_eq_false (by omega)
  clear c2
  simp only [Option.some.injEq, Prod.mk.injEq] at H
  obtain ⟨rfl, rfl⟩ := H
  go_enter Try.func43, Try.ntmps43
  go_wp2_with (first | ((with_reducible refine zS (N := 10) rfl ?_); refine zV ?hg (N := 10) ?hd (cs := #[.slice A0 l0.length c0, .int .i64 0]) (t := 61) ?hr ?_; (case hd => rfl); (case hg => rfl); (case hr => first | (go_simp; done) | (go_simp; rfl)); intro gb103 hg w6 hbox hb; have n0_ := zA (zQ HBW.out hb); have n1_ := zA (zQ (by repeat (first | (with_reducible first | exact HB.out | apply zG | apply zE | apply zF) | exact HB.out)) hb); have n2_ := zA (hbox); have n3_ := zA ((by rw [hg]; exact (zR (by repeat (first | (with_reducible first | exact HBW.out | apply zG | apply zE | apply zF) | exact HBW.out))) : w.heap.size ≤ gb103)); have n4_ := zA ((Nat.le_trans HW0.out (by rw [hg]; exact (zR (by repeat (first | (with_reducible first | exact HBW.out | apply zG | apply zE | apply zF) | exact HBW.out))) : w.heap.size ≤ gb103) : w0.heap.size ≤ gb103)); clear HBW; clear HB; have HBW := n0_; have HB := n1_; have BK103 := n2_; have GW103 := n3_; have GE103 := n4_; clear n0_ n1_ n2_ n3_ n4_; clear hb hbox hg))
  go_ret
  exact ⟨_, rfl, (show IsS61 w0 _ gb103 l0 0 from ⟨_, _, by (with_reducible repeat (first | refine zB ?_ _ | refine zD ?_ | refine zC ?_ _)); exact BK103.out, GE103.out, HR0.out⟩), by repeat (first | (with_reducible first | exact HB.out | apply zG | apply zE | apply zF | refine zH ?_ GE103.out) | exact HB.out), by repeat (first | (with_reducible first | exact HBW.out | apply zG | apply zE | apply zF | refine zH ?_ GW103.out) | exact HBW.out)⟩

end Go.Proofs.Ytmoaolcioihjnaa.Q

namespace Go.Proofs.Ytmoaolcioihjnaa.Q
open Go.RowKit Go.Proofs.YtmoaolcioihjnaaW.PrintWords Go.Proofs.YtmoaolcioihjnaaW.PrintLast Go.Proofs.YtmoaolcioihjnaaW.PrintMore Go.Proofs.YtmoaolcioihjnaaX
attribute [local go_sem] max2_int min2_int max_two min_two max_three min_three max_four min_four   -- for this text's walks alone
set_option linter.unusedVariables false
set_option linter.unusedSimpArgs false

def spec_l1Rd_pick.j0 : Nat → Int → Bool → List Int → Int → Option (Int × Int)
 | 0, _, _, _, _ => none
 | k + 1, x1, x24, x1000, x1001 => if x24 = true then (some (0, x1001)) else (if (wrap64 (x1001 - 1)) < (x1000.length : Int) then (if 0 ≤ (wrap64 (x1001 - 1)) then (if x1 = 0 then (none) else (some (Int.tmod (wrap64 (rd x1000 (wrap64 (x1001 - 1)))) x1, x1001))) else (none)) else (if (x1000.length : Int) = 0 then (none) else (if 0 ≤ (Int.tmod (wrap64 (x1001 - 1)) (x1000.length : Int)) then (if (Int.tmod (wrap64 (x1001 - 1)) (x1000.length : Int)) < (x1000.length : Int) then (if 0 ≤ (Int.tmod (wrap64 ((wrap64 ((wrap64 (x1001 - 1)) * 7)) + 3)) (x1000.length : Int)) then (if (Int.tmod (wrap64 ((wrap64 ((wrap64 (x1001 - 1)) * 7)) + 3)) (x1000.length : Int)) < (x1000.length : Int) then (if x1 = 0 then (none) else (some (Int.tmod (Go.bits .xor .i64 (wrap64 ((wrap64 ((wrap64 ((wrap64 ((wrap64 (rd x1000 (Int.tmod (wrap64 (x1001 - 1)) (x1000.length : Int)))) * 131)) + (wrap64 ((wrap64 (rd x1000 (Int.tmod (wrap64 ((wrap64 ((wrap64 (x1001 - 1)) * 7)) + 3)) (x1000.length : Int)))) * 1117)))) + (wrap64 ((wrap64 (x1001 - 1)) * 29)))) + (wrap64 ((wrap64 (Int.tdiv (wrap64 (x1001 - 1)) (x1000.length : Int))) * 53)))) (wrap64 (Int.tdiv (wrap64 ((wrap64 ((wrap64 ((wrap64 ((wrap64 (rd x1000 (Int.tmod (wrap64 (x1001 - 1)) (x1000.length : Int)))) * 131)) + (wrap64 ((wrap64 (rd x1000 (Int.tmod (wrap64 ((wrap64 ((wrap64 (x1001 - 1)) * 7)) + 3)) (x1000.length : Int)))) * 1117)))) + (wrap64 ((wrap64 (x1001 - 1)) * 29)))) + (wrap64 ((wrap64 (Int.tdiv (wrap64 (x1001 - 1)) (x1000.length : Int))) * 53)))) 64))) x1, x1001))) else (none)) else (none)) else (none)) else (none))))
def spec_l1Rd_pick.f (k : Nat) (s0_0 : List Int) (s0_1 : Int) (a1 : Int) : Option (Int × Int) := if a1 < 1 then (spec_l1Rd_pick.j0 k a1 true s0_0 (wrap64 (s0_1 + 1))) else (spec_l1Rd_pick.j0 k a1 ((s0_0.length : Int) == 0) s0_0 (wrap64 (s0_1 + 1)))
theorem spec_l1Rd_pick.mono_l : ∀ k, (∀ y0 y1 y2 y3, LeO (spec_l1Rd_pick.j0 k y0 y1 y2 y3) (spec_l1Rd_pick.j0 (k + 1) y0 y1 y2 y3))
 | 0 => fun _ _ _ _ r h => by simp [spec_l1Rd_pick.j0] at h
 | k + 1 => by
  have ih0 := spec_l1Rd_pick.mono_l k
  ·intro y0 y1 y2 y3
   unfold spec_l1Rd_pick.j0
   repeat' first
   | (with_reducible exact ih0 _ _ _ _)
   | (with_reducible exact LeO.refl _)
   | (with_reducible exact LeO.none _)
   | (with_reducible refine LeO.ite ?_ ?_)
   | (with_reducible refine LeO.bind ?_ (fun _ => ?_))
   | exact ih0 _ _ _ _
   | exact LeO.none _
   | refine LeO.ite ?_ ?_
   | refine LeO.bind ?_ (fun _ => ?_)
theorem spec_l1Rd_pick.mono : ∀ a0 a1 a2 k, LeO (spec_l1Rd_pick.f k a0 a1 a2) (spec_l1Rd_pick.f (k + 1) a0 a1 a2) := by
 intro a0 a1 a2 k
 have ih0 := spec_l1Rd_pick.mono_l k
 unfold spec_l1Rd_pick.f
 repeat' first
   | (with_reducible exact ih0 _ _ _ _)
   | (with_reducible exact LeO.refl _)
   | (with_reducible exact LeO.none _)
   | (with_reducible refine LeO.ite ?_ ?_)
   | (with_reducible refine LeO.bind ?_ (fun _ => ?_))
   | exact ih0 _ _ _ _
   | exact LeO.none _
   | refine LeO.ite ?_ ?_
   | refine LeO.bind ?_ (fun _ => ?_)
set_option maxHeartbeats 8000000 in
set_option maxRecDepth 100000 in
theorem spec_l1Rd_pick.calls (k : Nat) (g : Nat) (s0_0 : List Int) (s0_1 : Int) (a1 : Int) (r1 : Int) (r2 : Int) (w0 w : World) (hI : IsS61 w0 w g s0_0 s0_1) (hB : Below w0.heap.size w0 w) (h : spec_l1Rd_pick.f k s0_0 s0_1 a1 = some (r1, r2)) :
  Calls Try.prog 45 #[.pointer (some ⟨g, 0, none⟩), .int .i64 a1] w fun e w' => e = .returned (.int .i64 r1) ∧ IsS61 w0 w' g s0_0 r2 ∧ Below w0.heap.size w0 w' ∧ KeepBut w w' g none := by
 have HI0 := zA hI
 have HK := zA (KeepBut.refl w g none)
 have HL := zA hB.size
 clear hI
 have HW0 := zA hB.size
 have HB := zA hB
 clear hB
 have H : (if a1 < 1 then (spec_l1Rd_pick.j0 k a1 true s0_0 (wrap64 (s0_1 + 1))) else (spec_l1Rd_pick.j0 k a1 ((s0_0.length : Int) == 0) s0_0 (wrap64 (s0_1 + 1)))) = some (r1, r2) := h
 clear h
 have HC3 := zA H
 clear H
 obtain ⟨ASz4_0, cSz4_0, HGz4, hgz4, HSz4_0⟩ := HI0.out
 have hcz4_0 := cellS61_0 HGz4
 have hcz4_1 := cellS61_1 HGz4
 have hfz4_1 := zK HGz4 1
 clear HGz4 hgz4
 go_enter Try.func45, Try.ntmps45
 go_upto_region 2 with (fail)
 repeat (go_quiet (fail); go_upto_region 2 with (fail))
 go_cut [24] (fun v24 wc => ∃ (kq : Nat) (x24_2 : Bool), v24 = .bool x24_2 ∧ Aside0 (spec_l1Rd_pick.j0 kq a1 x24_2 s0_0 (wrap64 (s0_1 + 1)) = some (r1, r2)) ∧ Aside0 (kq ≤ k) ∧ Aside0 (IsS61 w0 wc g s0_0 (wrap64 (s0_1 + 1))) ∧ Aside0 (KeepBut w wc g none) ∧ Aside0 (Below w0.heap.size w0 wc))
 case first =>
  have H := HC3.out
  clear HC3
  by_cases c5 : a1 < 1
  ·rw [if_pos c5] at H
   have c5b0 : decide (a1 < 1) = true := decide_eq_true c5
   clear c5
   (first | rw [c5b0] | (simp only [i64_w, i32_w]; rw [c5b0]) | skip)
   have H' := zA H
   clear H
   go_wp2
   repeat (go_quiet (fail); try go_wp2)
   go_meet
   case rel => exact ⟨_, (true), (by first | rfl | (simp; done) | (simp [*]; done)), H', ⟨by first | omega | exact Nat.le_refl _⟩, ⟨by repeat (first | (with_reducible first | exact HI0.out | apply IsS61.alloc | apply IsS61.drewN | apply IsS61.drew | apply IsS61.set_1) | exact HI0.out)⟩, ⟨by repeat (first | (with_reducible first | exact HK.out | apply KeepBut.set_ | apply keep_drewN | apply keep_drew | apply keep_alloc) | exact HK.out)⟩, ⟨by repeat (first | (with_reducible first | exact HB.out | apply zG | apply zE | apply zF | refine zH ?_ (IsS61.ge HI0.out)) | exact HB.out)⟩⟩
  ·rw [if_neg c5] at H
   have c5b0 : decide (a1 < 1) = false := decide_eq_false c5
   clear c5
   (first | rw [c5b0] | (simp only [i64_w, i32_w]; rw [c5b0]) | skip)
   have H' := zA H
   clear H
   obtain ⟨ASz6_0, cSz6_0, HGz6, hgz6, HSz6_0⟩ := HI0.out
   have hcz6_0 := cellS61_0 HGz6
   have hcz6_1 := cellS61_1 HGz6
   have hfz6_1 := zK HGz6 1
   clear HGz6 hgz6
   go_wp2
   repeat (go_quiet (fail); try go_wp2)
   go_meet
   case rel => exact ⟨_, (((s0_0.length : Int) == 0)), (by first | rfl | (simp; done) | (simp [*]; done)), H', ⟨by first | omega | exact Nat.le_refl _⟩, ⟨by repeat (first | (with_reducible first | exact HI0.out | apply IsS61.alloc | apply IsS61.drewN | apply IsS61.drew | apply IsS61.set_1) | exact HI0.out)⟩, ⟨by repeat (first | (with_reducible first | exact HK.out | apply KeepBut.set_ | apply keep_drewN | apply keep_drew | apply keep_alloc) | exact HK.out)⟩, ⟨by repeat (first | (with_reducible first | exact HB.out | apply zG | apply zE | apply zF | refine zH ?_ (IsS61.ge HI0.out)) | exact HB.out)⟩⟩
 case rest =>
  clear HC3
  try clear p2
  try clear c4
  try clear c5
  try clear c5b0
  try clear p6
  try clear hcz4_0
  try clear hcz4_1
  try clear hcz6_0
  try clear hcz6_1
  try clear hfz4_1
  try clear hfz6_1
  obtain ⟨kq, x24_2, rfl, HA, HJ2, HI0, HK, HB⟩ := hcut
  cases kq with
  | zero => exact absurd HA.out (by simp [spec_l1Rd_pick.j0])
  | succ kj2 =>
   have H := HA.out
   clear HA
   simp only [spec_l1Rd_pick.j0] at H
   by_cases c7 : x24_2 = true
   ·subst c7
    have H1 : (some (0, (wrap64 (s0_1 + 1)))) = some (r1, r2) := by rw [if_pos rfl] at H; exact H
    clear H
    have H := H1
    clear H1
    simp only [Option.some.injEq, Prod.mk.injEq] at H
    obtain ⟨rfl, rfl⟩ := H
    go_wp2
    repeat (go_quiet (fail); try go_wp2)
    go_ret
    exact ⟨by first | rfl | (simp [errW_none, errW_some] <;> rfl) | (simp [*, errW_none, errW_some] <;> rfl), by repeat (first | (with_reducible first | exact HI0.out | apply IsS61.alloc | apply IsS61.drewN | apply IsS61.drew | apply IsS61.set_1) | exact HI0.out), by repeat (first | (with_reducible first | exact HB.out | apply zG | apply zE | apply zF | refine zH ?_ (IsS61.ge HI0.out)) | exact HB.out), by repeat (first | (with_reducible first | exact HK.out | apply KeepBut.set_ | apply keep_drewN | apply keep_drew | apply keep_alloc) | exact HK.out)⟩
   ·replace c7 := Bool.eq_false_iff.mpr c7
    subst c7
    have H1 : (if (wrap64 ((wrap64 (s0_1 + 1)) - 1)) < (s0_0.length : Int) then (if 0 ≤ (wrap64 ((wrap64 (s0_1 + 1)) - 1)) then (if a1 = 0 then (none) else (some (Int.tmod (wrap64 (rd s0_0 (wrap64 ((wrap64 (s0_1 + 1)) - 1)))) a1, (wrap64 (s0_1 + 1))))) else (none)) else (if (s0_0.length : Int) = 0 then (none) else (if 0 ≤ (Int.tmod (wrap64 ((wrap64 (s0_1 + 1)) - 1)) (s0_0.length : Int)) then (if (Int.tmod (wrap64 ((wrap64 (s0_1 + 1)) - 1)) (s0_0.length : Int)) < (s0_0.length : Int) then (if 0 ≤ (Int.tmod (wrap64 ((wrap64 ((wrap64 ((wrap64 (s0_1 + 1)) - 1)) * 7)) + 3)) (s0_0.length : Int)) then (if (Int.tmod (wrap64 ((wrap64 ((wrap64 ((wrap64 (s0_1 + 1)) - 1)) * 7)) + 3)) (s0_0.length : Int)) < (s0_0.length : Int) then (if a1 = 0 then (none) else (some (Int.tmod (Go.bits .xor .i64 (wrap64 ((wrap64 ((wrap64 ((wrap64 ((wrap64 (rd s0_0 (Int.tmod (wrap64 ((wrap64 (s0_1 + 1)) - 1)) (s0_0.length : Int)))) * 131)) + (wrap64 ((wrap64 (rd s0_0 (Int.tmod (wrap64 ((wrap64 ((wrap64 ((wrap64 (s0_1 + 1)) - 1)) * 7)) + 3)) (s0_0.length : Int)))) * 1117)))) + (wrap64 ((wrap64 ((wrap64 (s0_1 + 1)) - 1)) * 29)))) + (wrap64 ((wrap64 (Int.tdiv (wrap64 ((wrap64 (s0_1 + 1)) - 1)) (s0_0.length : Int))) * 53)))) (wrap64 (Int.tdiv (wrap64 ((wrap64 ((wrap64 ((wrap64 ((wrap64 (rd s0_0 (Int.tmod (wrap64 ((wrap64 (s0_1 + 1)) - 1)) (s0_0.length : Int)))) * 131)) + (wrap64 ((wrap64 (rd s0_0 (Int.tmod (wrap64 ((wrap64 ((wrap64 ((wrap64 (s0_1 + 1)) - 1)) * 7)) + 3)) (s0_0.length : Int)))) * 1117)))) + (wrap64 ((wrap64 ((wrap64 (s0_1 + 1)) - 1)) * 29)))) + (wrap64 ((wrap64 (Int.tdiv (wrap64 ((wrap64 (s0_1 + 1)) - 1)) (s0_0.length : Int))) * 53)))) 64))) a1, (wrap64 (s0_1 + 1))))) else (none)) else (none)) else (none)) else (none)))) = some (r1, r2) := by rw [if_neg (show ¬ (false = true) by decide)] at H; exact H
    clear H
    have H := H1
    clear H1
    by_cases c8 : (wrap64 ((wrap64 (s0_1 + 1)) - 1)) < (s0_0.length : Int)
    ·rw [if_pos c8] at H
     have c8b0 : decide ((wrap64 ((wrap64 (s0_1 + 1)) - 1)) < (s0_0.length : Int)) = true := decide_eq_true c8
     clear c8
     obtain ⟨ji9, hji9⟩ : ∃ j_ : Int, (wrap64 ((wrap64 (s0_1 + 1)) - 1)) = j_ := ⟨_, rfl⟩
     replace H : (if 0 ≤ (ji9) then (if a1 = 0 then (none) else (some (Int.tmod (wrap64 (rd s0_0 (ji9))) a1, (wrap64 (s0_1 + 1))))) else (none)) = some (r1, r2) := by first | (rw [hji9] at H; exact H) | (simp only [hji9] at H ⊢; exact H)
     (try rw [hji9] at c8b0)
     have hji9w : (IntKind.i64.wrap ((wrap64 (s0_1 + 1)) - 1)) = ji9 := (i64_w _).trans hji9
     by_cases c10 : 0 ≤ (ji9)
     ·rw [if_pos c10] at H
      have c10b0 : decide (0 ≤ (ji9)) = true := decide_eq_true c10
      clear c10
      by_cases c11 : a1 = 0
      ·rw [if_pos c11] at H
       exact absurd H (by simp)
      ·rw [if_neg c11] at H
       have c11b0 : (a1 == 0) = false := beq_eq_false_iff_ne.mpr c11
       have c11b1 : (a1 != 0) = true := bne_iff_ne.mpr c11
       simp only [Option.some.injEq, Prod.mk.injEq] at H
       obtain ⟨rfl, rfl⟩ := H
       obtain ⟨ASz12_0, cSz12_0, HGz12, hgz12, HSz12_0⟩ := HI0.out
       have hcz12_0 := cellS61_0 HGz12
       have hcz12_1 := cellS61_1 HGz12
       have hfz12_1 := zK HGz12 1
       clear HGz12 hgz12
       have p104 : 0 ≤ ((ji9) : Int) := of_decide_eq_true (by first | (with_reducible assumption) | assumption)
       have q104 : (ji9) < (s0_0.length : Int) := of_decide_eq_true (by first | (with_reducible assumption) | assumption)
       obtain ⟨ad104, e104, hx104_0⟩ := Kd.at_int HSz12_0 (ji9) p104 q104
       cases e104
       replace hx104_0 := pw_cell_below HB.out hx104_0
       replace p104 := eq_true p104
       replace q104 := eq_true q104
       go_wp2
       repeat (go_quiet (fail); try go_wp2)
       go_ret
       exact ⟨by first | rfl | (simp [errW_none, errW_some] <;> rfl) | (simp only [← hji9]; first | rfl | (simp [errW_none, errW_some] <;> rfl)) | (simp [*, errW_none, errW_some] <;> rfl), by repeat (first | (with_reducible first | exact HI0.out | apply IsS61.alloc | apply IsS61.drewN | apply IsS61.drew | apply IsS61.set_1) | exact HI0.out), by repeat (first | (with_reducible first | exact HB.out | apply zG | apply zE | apply zF | refine zH ?_ (IsS61.ge HI0.out)) | exact HB.out), by repeat (first | (with_reducible first | exact HK.out | apply KeepBut.set_ | apply keep_drewN | apply keep_drew | apply keep_alloc) | exact HK.out)⟩
     ·rw [if_neg c10] at H
      exact absurd H (by simp)
    ·rw [if_neg c8] at H
     have c8b0 : decide ((wrap64 ((wrap64 (s0_1 + 1)) - 1)) < (s0_0.length : Int)) = false := decide_eq_false c8
     clear c8
     by_cases c13 : (s0_0.length : Int) = 0
     ·rw [if_pos c13] at H
      exact absurd H (by simp)
     ·rw [if_neg c13] at H
      have c13b0 : ((s0_0.length : Int) == 0) = false := beq_eq_false_iff_ne.mpr c13
      have c13b1 : ((s0_0.length : Int) != 0) = true := bne_iff_ne.mpr c13
      have c13b2 : ¬ (s0_0 = []) := fun h_ => c13 (by rw [h_]; rfl)
      obtain ⟨ji14, hji14⟩ : ∃ j_ : Int, (Int.tmod (wrap64 ((wrap64 (s0_1 + 1)) - 1)) (s0_0.length : Int)) = j_ := ⟨_, rfl⟩
      replace H : (if 0 ≤ (ji14) then (if (ji14) < (s0_0.length : Int) then (if 0 ≤ (Int.tmod (wrap64 ((wrap64 ((wrap64 ((wrap64 (s0_1 + 1)) - 1)) * 7)) + 3)) (s0_0.length : Int)) then (if (Int.tmod (wrap64 ((wrap64 ((wrap64 ((wrap64 (s0_1 + 1)) - 1)) * 7)) + 3)) (s0_0.length : Int)) < (s0_0.length : Int) then (if a1 = 0 then (none) else (some (Int.tmod (Go.bits .xor .i64 (wrap64 ((wrap64 ((wrap64 ((wrap64 ((wrap64 (rd s0_0 (ji14))) * 131)) + (wrap64 ((wrap64 (rd s0_0 (Int.tmod (wrap64 ((wrap64 ((wrap64 ((wrap64 (s0_1 + 1)) - 1)) * 7)) + 3)) (s0_0.length : Int)))) * 1117)))) + (wrap64 ((wrap64 ((wrap64 (s0_1 + 1)) - 1)) * 29)))) + (wrap64 ((wrap64 (Int.tdiv (wrap64 ((wrap64 (s0_1 + 1)) - 1)) (s0_0.length : Int))) * 53)))) (wrap64 (Int.tdiv (wrap64 ((wrap64 ((wrap64 ((wrap64 ((wrap64 (rd s0_0 (ji14))) * 131)) + (wrap64 ((wrap64 (rd s0_0 (Int.tmod (wrap64 ((wrap64 ((wrap64 ((wrap64 (s0_1 + 1)) - 1)) * 7)) + 3)) (s0_0.length : Int)))) * 1117)))) + (wrap64 ((wrap64 ((wrap64 (s0_1 + 1)) - 1)) * 29)))) + (wrap64 ((wrap64 (Int.tdiv (wrap64 ((wrap64 (s0_1 + 1)) - 1)) (s0_0.length : Int))) * 53)))) 64))) a1, (wrap64 (s0_1 + 1))))) else (none)) else (none)) else (none)) else (none)) = some (r1, r2) := by first | (rw [hji14] at H; exact H) | (simp only [hji14] at H ⊢; exact H)
      by_cases c15 : 0 ≤ (ji14)
      ·rw [if_pos c15] at H
       have c15b0 : decide (0 ≤ (ji14)) = true := decide_eq_true c15
       clear c15
       by_cases c16 : (ji14) < (s0_0.length : Int)
       ·rw [if_pos c16] at H
        have c16b0 : decide ((ji14) < (s0_0.length : Int)) = true := decide_eq_true c16
        clear c16
        obtain ⟨ji17, hji17⟩ : ∃ j_ : Int, (Int.tmod (wrap64 ((wrap64 ((wrap64 ((wrap64 (s0_1 + 1)) - 1)) * 7)) + 3)) (s0_0.length : Int)) = j_ := ⟨_, rfl⟩
        replace H : (if 0 ≤ (ji17) then (if (ji17) < (s0_0.length : Int) then (if a1 = 0 then (none) else (some (Int.tmod (Go.bits .xor .i64 (wrap64 ((wrap64 ((wrap64 ((wrap64 ((wrap64 (rd s0_0 (ji14))) * 131)) + (wrap64 ((wrap64 (rd s0_0 (ji17))) * 1117)))) + (wrap64 ((wrap64 ((wrap64 (s0_1 + 1)) - 1)) * 29)))) + (wrap64 ((wrap64 (Int.tdiv (wrap64 ((wrap64 (s0_1 + 1)) - 1)) (s0_0.length : Int))) * 53)))) (wrap64 (Int.tdiv (wrap64 ((wrap64 ((wrap64 ((wrap64 ((wrap64 (rd s0_0 (ji14))) * 131)) + (wrap64 ((wrap64 (rd s0_0 (ji17))) * 1117)))) + (wrap64 ((wrap64 ((wrap64 (s0_1 + 1)) - 1)) * 29)))) + (wrap64 ((wrap64 (Int.tdiv (wrap64 ((wrap64 (s0_1 + 1)) - 1)) (s0_0.length : Int))) * 53)))) 64))) a1, (wrap64 (s0_1 + 1))))) else (none)) else (none)) = some (r1, r2) := by first | (rw [hji17] at H; exact H) | (simp only [hji17] at H ⊢; exact H)
        by_cases c18 : 0 ≤ (ji17)
        ·rw [if_pos c18] at H
         have c18b0 : decide (0 ≤ (ji17)) = true := decide_eq_true c18
         clear c18
         by_cases c19 : (ji17) < (s0_0.length : Int)
         ·rw [if_pos c19] at H
          have c19b0 : decide ((ji17) < (s0_0.length : Int)) = true := decide_eq_true c19
          clear c19
          by_cases c20 : a1 = 0
          ·rw [if_pos c20] at H
           exact absurd H (by simp)
          ·rw [if_neg c20] at H
           have c20b0 : (a1 == 0) = false := beq_eq_false_iff_ne.mpr c20
           have c20b1 : (a1 != 0) = true := bne_iff_ne.mpr c20
           simp only [Option.some.injEq, Prod.mk.injEq] at H
           obtain ⟨rfl, rfl⟩ := H
           obtain ⟨ASz21_0, cSz21_0, HGz21, hgz21, HSz21_0⟩ := HI0.out
           have hcz21_0 := cellS61_0 HGz21
           have hcz21_1 := cellS61_1 HGz21
           have hfz21_1 := zK HGz21 1
           clear HGz21 hgz21
           have p105 : 0 ≤ ((ji14) : Int) := of_decide_eq_true (by first | (with_reducible assumption) | assumption)
           have q105 : (ji14) < (s0_0.length : Int) := of_decide_eq_true (by first | (with_reducible assumption) | assumption)
           obtain ⟨ad105, e105, hx105_0⟩ := Kd.at_int HSz21_0 (ji14) p105 q105
           cases e105
           replace hx105_0 := pw_cell_below HB.out hx105_0
           replace p105 := eq_true p105
           replace q105 := eq_true q105
           have p106 : 0 ≤ ((ji17) : Int) := of_decide_eq_true (by first | (with_reducible assumption) | assumption)
           have q106 : (ji17) < (s0_0.length : Int) := of_decide_eq_true (by first | (with_reducible assumption) | assumption)
           obtain ⟨ad106, e106, hx106_0⟩ := Kd.at_int HSz21_0 (ji17) p106 q106
           obtain rfl : ad105 = ad106 := (by injection e106)
           replace hx106_0 := pw_cell_below HB.out hx106_0
           replace p106 := eq_true p106
           replace q106 := eq_true q106
           go_wp2
           repeat (go_quiet (fail); try go_wp2)
           go_ret
           exact ⟨by first | rfl | (simp [errW_none, errW_some] <;> rfl) | (simp only [← hji14, ← hji17]; first | rfl | (simp [errW_none, errW_some] <;> rfl)) | (simp [*, errW_none, errW_some] <;> rfl), by repeat (first | (with_reducible first | exact HI0.out | apply IsS61.alloc | apply IsS61.drewN | apply IsS61.drew | apply IsS61.set_1) | exact HI0.out), by repeat (first | (with_reducible first | exact HB.out | apply zG | apply zE | apply zF | refine zH ?_ (IsS61.ge HI0.out)) | exact HB.out), by repeat (first | (with_reducible first | exact HK.out | apply KeepBut.set_ | apply keep_drewN | apply keep_drew | apply keep_alloc) | exact HK.out)⟩
         ·rw [if_neg c19] at H
          exact absurd H (by simp)
        ·rw [if_neg c18] at H
         exact absurd H (by simp)
       ·rw [if_neg c16] at H
        exact absurd H (by simp)
      ·rw [if_neg c15] at H
       exact absurd H (by simp)

end Go.Proofs.Ytmoaolcioihjnaa.Q

namespace Go.Proofs.Ytmoaolcioihjnaa.Q
open Go.RowKit Go.Proofs.YtmoaolcioihjnaaW.PrintWords Go.Proofs.YtmoaolcioihjnaaW.PrintLast Go.Proofs.YtmoaolcioihjnaaW.PrintMore Go.Proofs.YtmoaolcioihjnaaX
attribute [local go_sem] max2_int min2_int max_two min_two max_three min_three max_four min_four   -- for this text's walks alone
set_option linter.unusedVariables false
set_option linter.unusedSimpArgs false

def spec_l1Rd_one.f (k : Nat) (s0_0 : List Int) (s0_1 : Int) (l1 : List Int) : Option (Int × Int) := (spec_l1Rd_pick.f k s0_0 s0_1 (l1.length : Int)).bind fun bt107 => (if 0 ≤ bt107.1 then (if bt107.1 < (l1.length : Int) then (some (rd l1 bt107.1, bt107.2)) else (none)) else (none))
theorem spec_l1Rd_one.mono : ∀ a0 a1 a2 k, LeO (spec_l1Rd_one.f k a0 a1 a2) (spec_l1Rd_one.f (k + 1) a0 a1 a2) := by
 intro a0 a1 a2 k
 unfold spec_l1Rd_one.f
 repeat' first
   | (with_reducible exact spec_l1Rd_pick.mono _ _ _ _)
   | (with_reducible exact LeO.refl _)
   | (with_reducible exact LeO.none _)
   | (with_reducible refine LeO.ite ?_ ?_)
   | (with_reducible refine LeO.bind ?_ (fun _ => ?_))
   | exact spec_l1Rd_pick.mono _ _ _ _
   | exact LeO.none _
   | refine LeO.ite ?_ ?_
   | refine LeO.bind ?_ (fun _ => ?_)
set_option maxHeartbeats 8000000 in
set_option maxRecDepth 100000 in
theorem spec_l1Rd_one.calls (k : Nat) (g : Nat) (s0_0 : List Int) (s0_1 : Int) (A1 : Option Addr) (c1 : Nat) (l1 : List Int) (r1 : Int) (r2 : Int) (w0 w : World) (hI : IsS61 w0 w g s0_0 s0_1) (hB : Below w0.heap.size w0 w) (hr1 : Kd.C (Kd.int .i64) w A1 l1.length l1) (hc1 : l1.length ≤ c1) (hf1 : ∀ ad, A1 = some ad → 0 < l1.length → ad.block ≠ g) (h : spec_l1Rd_one.f k s0_0 s0_1 l1 = some (r1, r2)) :
  Calls Try.prog 44 #[.pointer (some ⟨g, 0, none⟩), .slice A1 l1.length c1] w fun e w' => e = .returned (.int .i64 r1) ∧ IsS61 w0 w' g s0_0 r2 ∧ Below w0.heap.size w0 w' ∧ KeepBut w w' g none := by
 have HR1 := zA hr1
 have HC1 := zA hc1
 clear hr1 hc1
 have HI0 := zA hI
 have HK := zA (KeepBut.refl w g none)
 have HL := zA hB.size
 clear hI
 have HW0 := zA hB.size
 have HB := zA hB
 clear hB
 have H : ((spec_l1Rd_pick.f k s0_0 s0_1 (l1.length : Int)).bind fun bt107 => (if 0 ≤ bt107.1 then (if bt107.1 < (l1.length : Int) then (some (rd l1 bt107.1, bt107.2)) else (none)) else (none))) = some (r1, r2) := h
 clear h
 replace H := Option.bind_eq_some_iff.mp H
 obtain ⟨⟨t107, t108⟩, A30, H⟩ := H
 replace H : (if 0 ≤ t107 then (if t107 < (l1.length : Int) then (some (rd l1 t107, t108)) else (none)) else (none)) = some (r1, r2) := H
 have A3 := zA A30
 clear A30
 by_cases c4 : 0 ≤ t107
 ·rw [if_pos c4] at H
  have c4b0 : decide (0 ≤ t107) = true := decide_eq_true c4
  clear c4
  by_cases c5 : t107 < (l1.length : Int)
  ·rw [if_pos c5] at H
   have c5b0 : decide (t107 < (l1.length : Int)) = true := decide_eq_true c5
   clear c5
   simp only [Option.some.injEq, Prod.mk.injEq] at H
   obtain ⟨rfl, rfl⟩ := H
   go_enter Try.func44, Try.ntmps44
   go_wp2_with (first | ((with_reducible refine zT (f := 45) rfl ?_); refine goesL_ (some 9) rfl rfl Try.func45 (by kernel_rfl) rfl #[.pointer (some ⟨g, 0, none⟩), .int .i64 (l1.length : Int)] rfl (by (try simp only [zW, yA, yB]); first | done | rfl | (simp only [zX, zZ]; rfl)) ?_; (with_reducible refine (spec_l1Rd_pick.calls k g s0_0 s0_1 (l1.length : Int) t107 t108 w0 _ ?side1 ?side2 A3.out).mono ?_); (case side1 => repeat (first | (with_reducible first | exact HI0.out | apply IsS61.alloc | apply IsS61.drewN | apply IsS61.drew | apply IsS61.set_1) | exact HI0.out)); (case side2 => repeat (first | (with_reducible first | exact HB.out | apply zG | apply zE | apply zF | refine zH ?_ (IsS61.ge HI0.out)) | exact HB.out)); rintro e w6 ⟨rfl, hi, hb, hk⟩; refine ⟨_, rfl, ?_⟩; have n0_ := zA (KeepBut.trans (by repeat (first | (with_reducible first | exact HK.out | apply KeepBut.set_ | apply keep_drewN | apply keep_drew | apply keep_alloc) | exact HK.out)) hk (.inl rfl)); have n1_ := zA (hb); have n2_ := zA (hi); clear HK; clear HB; clear HI0; have HK := n0_; have HB := n1_; have HI0 := n2_; clear n0_ n1_ n2_; (try clear hb); (try clear hb2); (try clear hk); (try clear hi); have p109 : 0 ≤ (t107 : Int) := of_decide_eq_true (by first | (with_reducible assumption) | assumption); have q109 : t107 < (l1.length : Int) := of_decide_eq_true (by first | (with_reducible assumption) | assumption); obtain ⟨ad109, e109, hx109_0⟩ := Kd.at_int HR1.out t107 p109 q109; cases e109; replace hx109_0 := keep_cell HK.out hx109_0 (by first | (rw [add_block]; exact hf1 _ rfl (by omega)) | exact hf1 _ rfl (by omega) | exact hf1 ad109 rfl (by omega)); replace p109 := eq_true p109; replace q109 := eq_true q109))
   go_ret
   exact ⟨by first | rfl | (simp [errW_none, errW_some] <;> rfl) | (simp [*, errW_none, errW_some] <;> rfl), by repeat (first | (with_reducible first | exact HI0.out | apply IsS61.alloc | apply IsS61.drewN | apply IsS61.drew | apply IsS61.set_1) | exact HI0.out), by repeat (first | (with_reducible first | exact HB.out | apply zG | apply zE | apply zF | refine zH ?_ (IsS61.ge HI0.out)) | exact HB.out), by repeat (first | (with_reducible first | exact HK.out | apply KeepBut.set_ | apply keep_drewN | apply keep_drew | apply keep_alloc) | exact HK.out)⟩
  ·rw [if_neg c5] at H
   exact absurd H (by simp)
 ·rw [if_neg c4] at H
  exact absurd H (by simp)

end Go.Proofs.Ytmoaolcioihjnaa.Q

namespace Go.Proofs.Ytmoaolcioihjnaa.Q
open Go.RowKit Go.Proofs.YtmoaolcioihjnaaW.PrintWords Go.Proofs.YtmoaolcioihjnaaW.PrintLast Go.Proofs.YtmoaolcioihjnaaW.PrintMore Go.Proofs.YtmoaolcioihjnaaX
attribute [local go_sem] max2_int min2_int max_two min_two max_three min_three max_four min_four   -- for this text's walks alone
set_option linter.unusedVariables false
set_option linter.unusedSimpArgs false

def spec_l1In.f (a0 : Int) (a1 : Int) (a2 : Int) : Option (Bool) := if a0 ≥ a1 then (some (decide (a0 ≤ a2))) else (some false)
set_option maxHeartbeats 8000000 in
set_option maxRecDepth 100000 in
theorem spec_l1In.calls (a0 : Int) (a1 : Int) (a2 : Int) (r : Bool) (w : World) (h : spec_l1In.f a0 a1 a2 = some r) :
  Calls Try.prog 48 #[.int .i64 a0, .int .i64 a1, .int .i64 a2] w fun e w' => e = .returned (.bool r) ∧ Drawn0 w w' := by
 have H : (if a0 ≥ a1 then (some (decide (a0 ≤ a2))) else (some false)) = some r := h
 clear h
 by_cases c4 : a0 ≥ a1
 ·rw [if_pos c4] at H
  have c4b0 : decide (a1 ≤ a0) = true := decide_eq_true c4
  clear c4
  obtain rfl := Option.some.inj H
  go_enter Try.func48, Try.ntmps48
  go_wp2
  go_ret
  exact ⟨by first | rfl | (simp; done) | (simp [*]; done), by repeat (first | exact Drawn0.refl _ | apply Drawn0.step)⟩
 ·rw [if_neg c4] at H
  have c4b0 : decide (a1 ≤ a0) = false := decide_eq_false c4
  clear c4
  obtain rfl := Option.some.inj H
  go_enter Try.func48, Try.ntmps48
  go_wp2
  go_ret
  exact ⟨by first | rfl | (simp; done) | (simp [*]; done), by repeat (first | exact Drawn0.refl _ | apply Drawn0.step)⟩

end Go.Proofs.Ytmoaolcioihjnaa.Q

namespace Go.Proofs.Ytmoaolcioihjnaa.Q
open Go.RowKit Go.Proofs.YtmoaolcioihjnaaW.PrintWords Go.Proofs.YtmoaolcioihjnaaW.PrintLast Go.Proofs.YtmoaolcioihjnaaW.PrintMore Go.Proofs.YtmoaolcioihjnaaX
attribute [local go_sem] max2_int min2_int max_two min_two max_three min_three max_four min_four   -- for this text's walks alone
set_option linter.unusedVariables false
set_option linter.unusedSimpArgs false

def spec_DecOk.f (a0_0 : Int) (a0_1 : Int) : Option (Bool) := if a0_0 = 0 then (some (a0_1 == 0)) else ((spec_l1In.f a0_0 (-99999999) 99999999).bind fun t134 => (if t134 = true then ((spec_l1In.f a0_1 (-8) 8).bind fun t135 => (if t135 = true then (some ((Int.tmod a0_0 10) != 0)) else (some false))) else (some false)))
set_option maxHeartbeats 8000000 in
set_option maxRecDepth 100000 in
theorem spec_DecOk.calls (a0_0 : Int) (a0_1 : Int) (r : Bool) (w : World) (h : spec_DecOk.f a0_0 a0_1 = some r) :
  Calls Try.prog 20 #[.agg #[.int .i64 a0_0, .int .i64 a0_1]] w fun e w' => e = .returned (.bool r) ∧ Below w.heap.size w w' := by
 have hu26 := Try.underlying26
 have HB := zA (Below.refl w.heap.size w)
 have H : (if a0_0 = 0 then (some (a0_1 == 0)) else ((spec_l1In.f a0_0 (-99999999) 99999999).bind fun t134 => (if t134 = true then ((spec_l1In.f a0_1 (-8) 8).bind fun t135 => (if t135 = true then (some ((Int.tmod a0_0 10) != 0)) else (some false))) else (some false)))) = some r := h
 clear h
 by_cases c2 : a0_0 = 0
 ·rw [if_pos c2] at H
  have c2b0 : (a0_0 == 0) = true := beq_iff_eq.mpr c2
  have c2b1 : (a0_0 != 0) = false := bne_eq_false_iff_eq.mpr c2
  clear c2
  obtain rfl := Option.some.inj H
  go_enter Try.func20, Try.ntmps20
  go_wp2_with (first | ((with_reducible refine zS (N := 1) rfl ?_); refine zV ?hg (N := 1) ?hd (cs := #[.int .i64 a0_0, .int .i64 a0_1]) (t := 26) ?hr ?_; (case hd => rfl); (case hg => rfl); (case hr => first | (go_simp; done) | (go_simp; rfl)); intro gb133 hg w3 hbox hb; have n0_ := zA (zQ (by repeat (first | (with_reducible first | exact HB.out | apply zG | apply zE | apply zF) | exact HB.out)) hb); have n1_ := zA (hbox); have n2_ := zA ((by rw [hg]; exact (zR (by repeat (first | (with_reducible first | exact HB.out | apply zG | apply zE | apply zF) | exact HB.out))) : w.heap.size ≤ gb133)); have n3_ := zA ((by rw [hg]; exact (zR (by repeat (first | (with_reducible first | exact HB.out | apply zG | apply zE | apply zF) | exact HB.out))) : w.heap.size ≤ gb133)); clear HB; have HB := n0_; have BK133 := n1_; have GW133 := n2_; have GE133 := n3_; clear n0_ n1_ n2_ n3_; clear hb hbox hg; have hcz4_0 : w3.cell? ⟨gb133, 0, none⟩ = some (.int .i64 a0_0) := (zJ BK133.out 0).trans rfl; have hcz4_1 : w3.cell? ⟨gb133, 1, none⟩ = some (.int .i64 a0_1) := (zJ BK133.out 1).trans rfl; have hfz4_0 := zK BK133.out 0; have hfz4_1 := zK BK133.out 1))
  go_ret
  exact ⟨by first | rfl | (simp [errW_none, errW_some] <;> rfl) | (simp [*, errW_none, errW_some] <;> rfl), by repeat (first | (with_reducible first | exact HB.out | apply zG | apply zE | apply zF | refine zH ?_ GE133.out) | exact HB.out)⟩
 ·rw [if_neg c2] at H
  have c2b0 : (a0_0 == 0) = false := beq_eq_false_iff_ne.mpr c2
  have c2b1 : (a0_0 != 0) = true := bne_iff_ne.mpr c2
  replace H := Option.bind_eq_some_iff.mp H
  obtain ⟨t134, A50, H⟩ := H
  replace H : (if t134 = true then ((spec_l1In.f a0_1 (-8) 8).bind fun t135 => (if t135 = true then (some ((Int.tmod a0_0 10) != 0)) else (some false))) else (some false)) = some r := H
  have A5 := zA A50
  clear A50
  by_cases c6 : t134 = true
  ·subst c6
   have H1 : ((spec_l1In.f a0_1 (-8) 8).bind fun t135 => (if t135 = true then (some ((Int.tmod a0_0 10) != 0)) else (some false))) = some r := by rw [if_pos rfl] at H; exact H
   clear H
   have H := H1
   clear H1
   replace H := Option.bind_eq_some_iff.mp H
   obtain ⟨t135, A70, H⟩ := H
   replace H : (if t135 = true then (some ((Int.tmod a0_0 10) != 0)) else (some false)) = some r := H
   have A7 := zA A70
   clear A70
   by_cases c8 : t135 = true
   ·subst c8
    have H1 : (some ((Int.tmod a0_0 10) != 0)) = some r := by rw [if_pos rfl] at H; exact H
    clear H
    have H := H1
    clear H1
    obtain rfl := Option.some.inj H
    go_enter Try.func20, Try.ntmps20
    go_wp2_with (first | ((with_reducible refine zS (N := 1) rfl ?_); refine zV ?hg (N := 1) ?hd (cs := #[.int .i64 a0_0, .int .i64 a0_1]) (t := 26) ?hr ?_; (case hd => rfl); (case hg => rfl); (case hr => first | (go_simp; done) | (go_simp; rfl)); intro gb133 hg w9 hbox hb; have n0_ := zA (zQ (by repeat (first | (with_reducible first | exact HB.out | apply zG | apply zE | apply zF) | exact HB.out)) hb); have n1_ := zA (hbox); have n2_ := zA ((by rw [hg]; exact (zR (by repeat (first | (with_reducible first | exact HB.out | apply zG | apply zE | apply zF) | exact HB.out))) : w.heap.size ≤ gb133)); have n3_ := zA ((by rw [hg]; exact (zR (by repeat (first | (with_reducible first | exact HB.out | apply zG | apply zE | apply zF) | exact HB.out))) : w.heap.size ≤ gb133)); clear HB; have HB := n0_; have BK133 := n1_; have GW133 := n2_; have GE133 := n3_; clear n0_ n1_ n2_ n3_; clear hb hbox hg; have hcz10_0 : w9.cell? ⟨gb133, 0, none⟩ = some (.int .i64 a0_0) := (zJ BK133.out 0).trans rfl; have hcz10_1 : w9.cell? ⟨gb133, 1, none⟩ = some (.int .i64 a0_1) := (zJ BK133.out 1).trans rfl; have hfz10_0 := zK BK133.out 0; have hfz10_1 := zK BK133.out 1) | ((with_reducible refine zT (f := 48) rfl ?_); refine goesL_ (some 11) rfl rfl Try.func48 (by kernel_rfl) rfl #[.int .i64 a0_0, .int .i64 (-99999999), .int .i64 99999999] rfl (by (try simp only [zW, yA, yB]); first | done | rfl | (simp only [zX, zZ]; rfl)) ?_; (with_reducible refine (spec_l1In.calls a0_0 (-99999999) 99999999 true _ A5.out).mono ?_); rintro e w' ⟨rfl, ⟨nd, rfl⟩⟩; refine ⟨_, rfl, ?_⟩) | (go_at_call 48; (with_reducible refine (spec_l1In.calls a0_1 (-8) 8 true _ A7.out).mono ?_); rintro e w' ⟨rfl, ⟨nd, rfl⟩⟩))
    go_ret
    exact ⟨by first | rfl | (simp [errW_none, errW_some] <;> rfl) | (simp [*, errW_none, errW_some] <;> rfl), by repeat (first | (with_reducible first | exact HB.out | apply zG | apply zE | apply zF | refine zH ?_ GE133.out) | exact HB.out)⟩
   ·replace c8 := Bool.eq_false_iff.mpr c8
    subst c8
    have H1 : (some false) = some r := by rw [if_neg (show ¬ (false = true) by decide)] at H; exact H
    clear H
    have H := H1
    clear H1
    obtain rfl := Option.some.inj H
    go_enter Try.func20, Try.ntmps20
    go_wp2_with (first | ((with_reducible refine zS (N := 1) rfl ?_); refine zV ?hg (N := 1) ?hd (cs := #[.int .i64 a0_0, .int .i64 a0_1]) (t := 26) ?hr ?_; (case hd => rfl); (case hg => rfl); (case hr => first | (go_simp; done) | (go_simp; rfl)); intro gb133 hg w11 hbox hb; have n0_ := zA (zQ (by repeat (first | (with_reducible first | exact HB.out | apply zG | apply zE | apply zF) | exact HB.out)) hb); have n1_ := zA (hbox); have n2_ := zA ((by rw [hg]; exact (zR (by repeat (first | (with_reducible first | exact HB.out | apply zG | apply zE | apply zF) | exact HB.out))) : w.heap.size ≤ gb133)); have n3_ := zA ((by rw [hg]; exact (zR (by repeat (first | (with_reducible first | exact HB.out | apply zG | apply zE | apply zF) | exact HB.out))) : w.heap.size ≤ gb133)); clear HB; have HB := n0_; have BK133 := n1_; have GW133 := n2_; have GE133 := n3_; clear n0_ n1_ n2_ n3_; clear hb hbox hg; have hcz12_0 : w11.cell? ⟨gb133, 0, none⟩ = some (.int .i64 a0_0) := (zJ BK133.out 0).trans rfl; have hcz12_1 : w11.cell? ⟨gb133, 1, none⟩ = some (.int .i64 a0_1) := (zJ BK133.out 1).trans rfl; have hfz12_0 := zK BK133.out 0; have hfz12_1 := zK BK133.out 1) | ((with_reducible refine zT (f := 48) rfl ?_); refine goesL_ (some 11) rfl rfl Try.func48 (by kernel_rfl) rfl #[.int .i64 a0_0, .int .i64 (-99999999), .int .i64 99999999] rfl (by (try simp only [zW, yA, yB]); first | done | rfl | (simp only [zX, zZ]; rfl)) ?_; (with_reducible refine (spec_l1In.calls a0_0 (-99999999) 99999999 true _ A5.out).mono ?_); rintro e w' ⟨rfl, ⟨nd, rfl⟩⟩; refine ⟨_, rfl, ?_⟩) | (go_at_call 48; (with_reducible refine (spec_l1In.calls a0_1 (-8) 8 false _ A7.out).mono ?_); rintro e w' ⟨rfl, ⟨nd, rfl⟩⟩))
    go_ret
    exact ⟨by first | rfl | (simp [errW_none, errW_some] <;> rfl) | (simp [*, errW_none, errW_some] <;> rfl), by repeat (first | (with_reducible first | exact HB.out | apply zG | apply zE | apply zF | refine zH ?_ GE133.out) | exact HB.out)⟩
  ·replace c6 := Bool.eq_false_iff.mpr c6
   subst c6
   have H1 : (some false) = some r := by rw [if_neg (show ¬ (false = true) by decide)] at H; exact H
   clear H
   have H := H1
   clear H1
   obtain rfl := Option.some.inj H
   go_enter Try.func20, Try.ntmps20
   go_wp2_with (first | ((with_reducible refine zS (N := 1) rfl ?_); refine zV ?hg (N := 1) ?hd (cs := #[.int .i64 a0_0, .int .i64 a0_1]) (t := 26) ?hr ?_; (case hd => rfl); (case hg => rfl); (case hr => first | (go_simp; done) | (go_simp; rfl)); intro gb133 hg w13 hbox hb; have n0_ := zA (zQ (by repeat (first | (with_reducible first | exact HB.out | apply zG | apply zE | apply zF) | exact HB.out)) hb); have n1_ := zA (hbox); have n2_ := zA ((by rw [hg]; exact (zR (by repeat (first | (with_reducible first | exact HB.out | apply zG | apply zE | apply zF) | exact HB.out))) : w.heap.size ≤ gb133)); have n3_ := zA ((by rw [hg]; exact (zR (by repeat (first | (with_reducible first | exact HB.out | apply zG | apply zE | apply zF) | exact HB.out))) : w.heap.size ≤ gb133)); clear HB; have HB := n0_; have BK133 := n1_; have GW133 := n2_; have GE133 := n3_; clear n0_ n1_ n2_ n3_; clear hb hbox hg; have hcz14_0 : w13.cell? ⟨gb133, 0, none⟩ = some (.int .i64 a0_0) := (zJ BK133.out 0).trans rfl; have hcz14_1 : w13.cell? ⟨gb133, 1, none⟩ = some (.int .i64 a0_1) := (zJ BK133.out 1).trans rfl; have hfz14_0 := zK BK133.out 0; have hfz14_1 := zK BK133.out 1) | ((with_reducible refine zT (f := 48) rfl ?_); refine goesL_ (some 11) rfl rfl Try.func48 (by kernel_rfl) rfl #[.int .i64 a0_0, .int .i64 (-99999999), .int .i64 99999999] rfl (by (try simp only [zW, yA, yB]); first | done | rfl | (simp only [zX, zZ]; rfl)) ?_; (with_reducible refine (spec_l1In.calls a0_0 (-99999999) 99999999 false _ A5.out).mono ?_); rintro e w' ⟨rfl, ⟨nd, rfl⟩⟩; refine ⟨_, rfl, ?_⟩))
   go_ret
   exact ⟨by first | rfl | (simp [errW_none, errW_some] <;> rfl) | (simp [*, errW_none, errW_some] <;> rfl), by repeat (first | (with_reducible first | exact HB.out | apply zG | apply zE | apply zF | refine zH ?_ GE133.out) | exact HB.out)⟩

end Go.Proofs.Ytmoaolcioihjnaa.Q

namespace Go.Proofs.Ytmoaolcioihjnaa.Q
open Go.RowKit Go.Proofs.YtmoaolcioihjnaaW.PrintWords Go.Proofs.YtmoaolcioihjnaaW.PrintLast Go.Proofs.YtmoaolcioihjnaaW.PrintMore Go.Proofs.YtmoaolcioihjnaaX
attribute [local go_sem] max2_int min2_int max_two min_two max_three min_three max_four min_four   -- for this text's walks alone
set_option linter.unusedVariables false
set_option linter.unusedSimpArgs false

def spec_l1New.l0 : Nat → Int → Int → Option (Int × Int × Bool)
 | 0, _, _ => none
 | k + 1, x0, x1 => if (Int.tmod x0 10) = 0 then (spec_l1New.l0 k (wrap64 (Int.tdiv x0 10)) (wrap64 (x1 + 1))) else ((spec_DecOk.f x0 x1).bind fun t138 => (if t138 = true then (some (x0, x1, true)) else (some (0, 0, false))))
def spec_l1New.f (k : Nat) (a0 : Int) (a1 : Int) : Option (Int × Int × Bool) := if a0 = 0 then (some (0, 0, true)) else (spec_l1New.l0 k a0 a1)
theorem spec_l1New.mono_l : ∀ k, (∀ y0 y1, LeO (spec_l1New.l0 k y0 y1) (spec_l1New.l0 (k + 1) y0 y1))
 | 0 => fun _ _ r h => by simp [spec_l1New.l0] at h
 | k + 1 => by
  have ih0 := spec_l1New.mono_l k
  ·intro y0 y1
   unfold spec_l1New.l0
   repeat' first
   | (with_reducible exact ih0 _ _)
   | (with_reducible exact LeO.refl _)
   | (with_reducible exact LeO.none _)
   | (with_reducible refine LeO.ite ?_ ?_)
   | (with_reducible refine LeO.bind ?_ (fun _ => ?_))
   | exact ih0 _ _
   | exact LeO.none _
   | refine LeO.ite ?_ ?_
   | refine LeO.bind ?_ (fun _ => ?_)
theorem spec_l1New.mono : ∀ a0 a1 k, LeO (spec_l1New.f k a0 a1) (spec_l1New.f (k + 1) a0 a1) := by
 intro a0 a1 k
 have ih0 := spec_l1New.mono_l k
 unfold spec_l1New.f
 repeat' first
   | (with_reducible exact ih0 _ _)
   | (with_reducible exact LeO.refl _)
   | (with_reducible exact LeO.none _)
   | (with_reducible refine LeO.ite ?_ ?_)
   | (with_reducible refine LeO.bind ?_ (fun _ => ?_))
   | exact ih0 _ _
   | exact LeO.none _
   | refine LeO.ite ?_ ?_
   | refine LeO.bind ?_ (fun _ => ?_)
set_option maxHeartbeats 8000000 in
set_option maxRecDepth 100000 in
theorem spec_l1New.calls (k : Nat) (a0 : Int) (a1 : Int) (r1 : Int) (r2 : Int) (r3 : Bool) (w : World) (h : spec_l1New.f k a0 a1 = some (r1, r2, r3)) :
  Calls Try.prog 49 #[.int .i64 a0, .int .i64 a1] w fun e w' => e = .returned (.tuple #[.agg #[.int .i64 r1, .int .i64 r2], .bool r3]) ∧ Below w.heap.size w w' := by
 have hu26 := Try.underlying26
 have HB := zA (Below.refl w.heap.size w)
 have H : (if a0 = 0 then (some (0, 0, true)) else (spec_l1New.l0 k a0 a1)) = some (r1, r2, r3) := h
 clear h
 by_cases c3 : a0 = 0
 ·rw [if_pos c3] at H
  have c3b0 : (a0 == 0) = true := beq_iff_eq.mpr c3
  have c3b1 : (a0 != 0) = false := bne_eq_false_iff_eq.mpr c3
  clear c3
  simp only [Option.some.injEq, Prod.mk.injEq] at H
  obtain ⟨rfl, rfl, rfl⟩ := H
  go_enter Try.func49, Try.ntmps49
  go_wp2_with (first | ((with_reducible refine zS (N := 4) rfl ?_); refine zV ?hg (N := 4) ?hd (cs := #[.int .i64 0, .int .i64 0]) (t := 26) ?hr ?_; (case hd => rfl); (case hg => rfl); (case hr => first | (go_simp; done) | (go_simp; rfl)); intro gb136 hg w4 hbox hb; have n0_ := zA (zQ (by repeat (first | (with_reducible first | exact HB.out | apply zG | apply zE | apply zF) | exact HB.out)) hb); have n1_ := zA (hbox); have n2_ := zA ((by rw [hg]; exact (zR (by repeat (first | (with_reducible first | exact HB.out | apply zG | apply zE | apply zF) | exact HB.out))) : w.heap.size ≤ gb136)); have n3_ := zA ((by rw [hg]; exact (zR (by repeat (first | (with_reducible first | exact HB.out | apply zG | apply zE | apply zF) | exact HB.out))) : w.heap.size ≤ gb136)); clear HB; have HB := n0_; have BK136 := n1_; have GW136 := n2_; have GE136 := n3_; clear n0_ n1_ n2_ n3_; clear hb hbox hg; have hcz5_0 : w4.cell? ⟨gb136, 0, none⟩ = some (.int .i64 0) := (zJ BK136.out 0).trans rfl; have hcz5_1 : w4.cell? ⟨gb136, 1, none⟩ = some (.int .i64 0) := (zJ BK136.out 1).trans rfl; have hfz5_0 := zK BK136.out 0; have hfz5_1 := zK BK136.out 1))
  refine bodyPost_ret (results_ct rfl _ _ gb136 26 #[.int .i64 0, .int .i64 0] (0, 0) _ rfl (by (with_reducible repeat (first | refine zB ?_ _ | refine zD ?_ | refine zC ?_ _)); refine blk_put (cs := #[.int .i64 0, .int .i64 0]) ?_ 1 _ rfl; (with_reducible repeat (first | refine zB ?_ _ | refine zD ?_ | refine zC ?_ _)); refine blk_put (cs := #[.int .i64 0, .int .i64 0]) ?_ 0 _ rfl; (with_reducible repeat (first | refine zB ?_ _ | refine zD ?_ | refine zC ?_ _)); exact BK136.out) Try.underlying26 rfl (by kernel_rfl)) rfl ?_
  exact ⟨by first | rfl | (simp [errW_none, errW_some] <;> rfl) | (simp [*, errW_none, errW_some] <;> rfl), by repeat (first | (with_reducible first | exact HB.out | apply zG | apply zE | apply zF | refine zH ?_ GE136.out) | exact HB.out)⟩
 ·rw [if_neg c3] at H
  have c3b0 : (a0 == 0) = false := beq_eq_false_iff_ne.mpr c3
  have c3b1 : (a0 != 0) = true := bne_iff_ne.mpr c3
  have H' := zA H
  clear H
  go_enter Try.func49, Try.ntmps49
  go_wp2_with (first | ((with_reducible refine zS (N := 4) rfl ?_); refine zV ?hg (N := 4) ?hd (cs := #[.int .i64 0, .int .i64 0]) (t := 26) ?hr ?_; (case hd => rfl); (case hg => rfl); (case hr => first | (go_simp; done) | (go_simp; rfl)); intro gb136 hg w6 hbox hb; have n0_ := zA (zQ (by repeat (first | (with_reducible first | exact HB.out | apply zG | apply zE | apply zF) | exact HB.out)) hb); have n1_ := zA (hbox); have n2_ := zA ((by rw [hg]; exact (zR (by repeat (first | (with_reducible first | exact HB.out | apply zG | apply zE | apply zF) | exact HB.out))) : w.heap.size ≤ gb136)); have n3_ := zA ((by rw [hg]; exact (zR (by repeat (first | (with_reducible first | exact HB.out | apply zG | apply zE | apply zF) | exact HB.out))) : w.heap.size ≤ gb136)); clear HB; have HB := n0_; have BK136 := n1_; have GW136 := n2_; have GE136 := n3_; clear n0_ n1_ n2_ n3_; clear hb hbox hg))
  go_loopg [0, 1] k (fun kq v0 v1 w' => ∃ (x0_1 : Int) (x1_1 : Int), v0 = .int .i64 x0_1 ∧ v1 = .int .i64 x1_1 ∧ Aside0 (spec_l1New.l0 kq x0_1 x1_1 = some (r1, r2, r3)) ∧ Aside0 (kq ≤ k) ∧ Aside0 (w'.heap[gb136]? = some (.cells #[.int .i64 0, .int .i64 0] 26 (0, 0))) ∧ Aside0 (Below w.heap.size w w'))
  case atStart => exact ⟨(a0), (a1), (by first | rfl | (simp; done) | (simp [*]; done)), (by first | rfl | (simp; done) | (simp [*]; done)), H', ⟨Nat.le_refl _⟩, ⟨by (with_reducible repeat (first | refine zB ?_ _ | refine zD ?_ | refine zC ?_ _)); exact BK136.out⟩, ⟨by repeat (first | (with_reducible first | exact HB.out | apply zG | apply zE | apply zF | refine zH ?_ GE136.out) | exact HB.out)⟩⟩
  case round =>
   clear H'
   try clear p2
   try clear c3
   try clear c3b0
   try clear c3b1
   try clear c4
   try clear hcz5_0
   try clear hcz5_1
   try clear hfz5_0
   try clear hfz5_1
   obtain ⟨x0_1, x1_1, rfl, rfl, HA, HK1, BK136, HB⟩ := hrel
   cases gk with
   | zero => exact absurd HA.out (by simp [spec_l1New.l0])
   | succ k1 =>
    have H := HA.out
    clear HA
    simp only [spec_l1New.l0] at H
    by_cases c7 : (Int.tmod x0_1 10) = 0
    ·rw [if_pos c7] at H
     have c7b0 : ((Int.tmod x0_1 10) == 0) = true := beq_iff_eq.mpr c7
     have c7b1 : ((Int.tmod x0_1 10) != 0) = false := bne_eq_false_iff_eq.mpr c7
     clear c7
     have H' := zA H
     clear H
     go_wp2
     go_roundg k1
     case measure => have := HK1.out; omega
     case rel => exact ⟨(wrap64 (Int.tdiv x0_1 10)), (wrap64 (x1_1 + 1)), (by first | rfl | (simp; done) | (simp [*]; done)), (by first | rfl | (simp; done) | (simp [*]; done)), H', ⟨by have := HK1.out; omega⟩, ⟨by (with_reducible repeat (first | refine zB ?_ _ | refine zD ?_ | refine zC ?_ _)); exact BK136.out⟩, ⟨by repeat (first | (with_reducible first | exact HB.out | apply zG | apply zE | apply zF | refine zH ?_ GE136.out) | exact HB.out)⟩⟩
    ·rw [if_neg c7] at H
     have c7b0 : ((Int.tmod x0_1 10) == 0) = false := beq_eq_false_iff_ne.mpr c7
     have c7b1 : ((Int.tmod x0_1 10) != 0) = true := bne_iff_ne.mpr c7
     replace H := Option.bind_eq_some_iff.mp H
     obtain ⟨t138, A80, H⟩ := H
     replace H : (if t138 = true then (some (x0_1, x1_1, true)) else (some (0, 0, false))) = some (r1, r2, r3) := H
     have A8 := zA A80
     clear A80
     by_cases c9 : t138 = true
     ·subst c9
      have H1 : (some (x0_1, x1_1, true)) = some (r1, r2, r3) := by rw [if_pos rfl] at H; exact H
      clear H
      have H := H1
      clear H1
      simp only [Option.some.injEq, Prod.mk.injEq] at H
      obtain ⟨rfl, rfl, rfl⟩ := H
      go_wp2_with (first | ((with_reducible refine zS (N := 6) rfl ?_); refine zV ?hg (N := 6) ?hd (cs := #[.int .i64 0, .int .i64 0]) (t := 26) ?hr ?_; (case hd => rfl); (case hg => rfl); (case hr => first | (go_simp; done) | (go_simp; rfl)); intro gb137 hg w10 hbox hb; have n0_ := zA (zP (g := gb136) (o := .cells #[.int .i64 0, .int .i64 0] 26 (0, 0)) (by (with_reducible repeat (first | refine zB ?_ _ | refine zD ?_ | refine zC ?_ _)); exact BK136.out) hb); have n1_ := zA (zQ (by repeat (first | (with_reducible first | exact HB.out | apply zG | apply zE | apply zF | refine zH ?_ GE136.out) | exact HB.out)) hb); have n2_ := zA (hbox); have n3_ := zA ((by rw [hg]; exact (zR (by repeat (first | (with_reducible first | exact HB.out | apply zG | apply zE | apply zF | refine zH ?_ GE136.out) | exact HB.out))) : w.heap.size ≤ gb137)); have n4_ := zA ((by rw [hg]; exact (zR (by repeat (first | (with_reducible first | exact HB.out | apply zG | apply zE | apply zF | refine zH ?_ GE136.out) | exact HB.out))) : w.heap.size ≤ gb137)); have n5_ := zA ((by rw [hg]; exact Nat.ne_of_lt (blk_lt (g := gb136) (o := .cells #[.int .i64 0, .int .i64 0] 26 (0, 0)) (by (with_reducible repeat (first | refine zB ?_ _ | refine zD ?_ | refine zC ?_ _)); exact BK136.out)) : gb136 ≠ gb137)); have n6_ := zA ((by rw [hg]; exact Nat.ne_of_gt (blk_lt (g := gb136) (o := .cells #[.int .i64 0, .int .i64 0] 26 (0, 0)) (by (with_reducible repeat (first | refine zB ?_ _ | refine zD ?_ | refine zC ?_ _)); exact BK136.out)) : gb137 ≠ gb136)); clear BK136; clear HB; have BK136 := n0_; have HB := n1_; have BK137 := n2_; have GW137 := n3_; have GE137 := n4_; have NB136_137 := n5_; have NB137_136 := n6_; clear n0_ n1_ n2_ n3_ n4_ n5_ n6_; clear hb hbox hg; have hnb11 := NB137_136.out; have hnc11 := NB136_137.out; have hcz12_0 : w10.cell? ⟨gb137, 0, none⟩ = some (.int .i64 0) := (zJ BK137.out 0).trans rfl; have hcz12_1 : w10.cell? ⟨gb137, 1, none⟩ = some (.int .i64 0) := (zJ BK137.out 1).trans rfl; have hfz12_0 := zK BK137.out 0; have hfz12_1 := zK BK137.out 1) | ((with_reducible refine zT (f := 20) rfl ?_); refine goesL_ (some 21) rfl rfl Try.func20 (by kernel_rfl) rfl #[.agg #[.int .i64 x0_1, .int .i64 x1_1]] rfl (by (try simp only [zW, yA, yB]); first | done | rfl | (simp only [zX, zZ]; rfl)) ?_; (with_reducible refine (spec_DecOk.calls x0_1 x1_1 true _ A8.out).mono ?_); rintro e w13 ⟨rfl, hb⟩; refine ⟨_, rfl, ?_⟩; have n0_ := zA (zP (g := gb136) (o := .cells #[.int .i64 0, .int .i64 0] 26 (0, 0)) (by (with_reducible repeat (first | refine zB ?_ _ | refine zD ?_ | refine zC ?_ _)); refine blk_far ?_ NB136_137.out _; (with_reducible repeat (first | refine zB ?_ _ | refine zD ?_ | refine zC ?_ _)); refine blk_far ?_ NB136_137.out _; (with_reducible repeat (first | refine zB ?_ _ | refine zD ?_ | refine zC ?_ _)); exact BK136.out) hb); have n1_ := zA (zP (g := gb137) (o := .cells #[.int .i64 x0_1, .int .i64 x1_1] 26 (0, 0)) (by (with_reducible repeat (first | refine zB ?_ _ | refine zD ?_ | refine zC ?_ _)); refine blk_put (cs := #[.int .i64 x0_1, .int .i64 0]) ?_ 1 _ rfl; (with_reducible repeat (first | refine zB ?_ _ | refine zD ?_ | refine zC ?_ _)); refine blk_put (cs := #[.int .i64 0, .int .i64 0]) ?_ 0 _ rfl; (with_reducible repeat (first | refine zB ?_ _ | refine zD ?_ | refine zC ?_ _)); exact BK137.out) hb); have n2_ := zA (zQ (by repeat (first | (with_reducible first | exact HB.out | apply zG | apply zE | apply zF | refine zH ?_ GE136.out | refine zH ?_ GE137.out) | exact HB.out)) hb); clear BK136; clear BK137; clear HB; have BK136 := n0_; have BK137 := n1_; have HB := n2_; clear n0_ n1_ n2_; (try clear hb); (try clear hb2); (try clear hk); (try clear hi); have hcz14_0 : w13.cell? ⟨gb137, 0, none⟩ = some (.int .i64 x0_1) := (zJ BK137.out 0).trans rfl; have hcz14_1 : w13.cell? ⟨gb137, 1, none⟩ = some (.int .i64 x1_1) := (zJ BK137.out 1).trans rfl; have hfz14_0 := zK BK137.out 0; have hfz14_1 := zK BK137.out 1; have hcz15_0 : w13.cell? ⟨gb136, 0, none⟩ = some (.int .i64 0) := (zJ BK136.out 0).trans rfl; have hcz15_1 : w13.cell? ⟨gb136, 1, none⟩ = some (.int .i64 0) := (zJ BK136.out 1).trans rfl; have hfz15_0 := zK BK136.out 0; have hfz15_1 := zK BK136.out 1))
      refine bodyPost_ret (results_ct rfl _ _ gb136 26 #[.int .i64 x0_1, .int .i64 x1_1] (0, 0) _ rfl (by (with_reducible repeat (first | refine zB ?_ _ | refine zD ?_ | refine zC ?_ _)); refine blk_put (cs := #[.int .i64 x0_1, .int .i64 0]) ?_ 1 _ rfl; (with_reducible repeat (first | refine zB ?_ _ | refine zD ?_ | refine zC ?_ _)); refine blk_put (cs := #[.int .i64 0, .int .i64 0]) ?_ 0 _ rfl; (with_reducible repeat (first | refine zB ?_ _ | refine zD ?_ | refine zC ?_ _)); exact BK136.out) Try.underlying26 rfl (by kernel_rfl)) rfl ?_
      exact ⟨by first | rfl | (simp [errW_none, errW_some] <;> rfl) | (simp [*, errW_none, errW_some] <;> rfl), by repeat (first | (with_reducible first | exact HB.out | apply zG | apply zE | apply zF | refine zH ?_ GE136.out | refine zH ?_ GE137.out) | exact HB.out)⟩
     ·replace c9 := Bool.eq_false_iff.mpr c9
      subst c9
      have H1 : (some (0, 0, false)) = some (r1, r2, r3) := by rw [if_neg (show ¬ (false = true) by decide)] at H; exact H
      clear H
      have H := H1
      clear H1
      simp only [Option.some.injEq, Prod.mk.injEq] at H
      obtain ⟨rfl, rfl, rfl⟩ := H
      go_wp2_with (first | ((with_reducible refine zS (N := 6) rfl ?_); refine zV ?hg (N := 6) ?hd (cs := #[.int .i64 0, .int .i64 0]) (t := 26) ?hr ?_; (case hd => rfl); (case hg => rfl); (case hr => first | (go_simp; done) | (go_simp; rfl)); intro gb137 hg w16 hbox hb; have n0_ := zA (zP (g := gb136) (o := .cells #[.int .i64 0, .int .i64 0] 26 (0, 0)) (by (with_reducible repeat (first | refine zB ?_ _ | refine zD ?_ | refine zC ?_ _)); exact BK136.out) hb); have n1_ := zA (zQ (by repeat (first | (with_reducible first | exact HB.out | apply zG | apply zE | apply zF | refine zH ?_ GE136.out) | exact HB.out)) hb); have n2_ := zA (hbox); have n3_ := zA ((by rw [hg]; exact (zR (by repeat (first | (with_reducible first | exact HB.out | apply zG | apply zE | apply zF | refine zH ?_ GE136.out) | exact HB.out))) : w.heap.size ≤ gb137)); have n4_ := zA ((by rw [hg]; exact (zR (by repeat (first | (with_reducible first | exact HB.out | apply zG | apply zE | apply zF | refine zH ?_ GE136.out) | exact HB.out))) : w.heap.size ≤ gb137)); have n5_ := zA ((by rw [hg]; exact Nat.ne_of_lt (blk_lt (g := gb136) (o := .cells #[.int .i64 0, .int .i64 0] 26 (0, 0)) (by (with_reducible repeat (first | refine zB ?_ _ | refine zD ?_ | refine zC ?_ _)); exact BK136.out)) : gb136 ≠ gb137)); have n6_ := zA ((by rw [hg]; exact Nat.ne_of_gt (blk_lt (g := gb136) (o := .cells #[.int .i64 0, .int .i64 0] 26 (0, 0)) (by (with_reducible repeat (first | refine zB ?_ _ | refine zD ?_ | refine zC ?_ _)); exact BK136.out)) : gb137 ≠ gb136)); clear BK136; clear HB; have BK136 := n0_; have HB := n1_; have BK137 := n2_; have GW137 := n3_; have GE137 := n4_; have NB136_137 := n5_; have NB137_136 := n6_; clear n0_ n1_ n2_ n3_ n4_ n5_ n6_; clear hb hbox hg; have hnb17 := NB137_136.out; have hnc17 := NB136_137.out; have hcz18_0 : w16.cell? ⟨gb137, 0, none⟩ = some (.int .i64 0) := (zJ BK137.out 0).trans rfl; have hcz18_1 : w16.cell? ⟨gb137, 1, none⟩ = some (.int .i64 0) := (zJ BK137.out 1).trans rfl; have hfz18_0 := zK BK137.out 0; have hfz18_1 := zK BK137.out 1) | ((with_reducible refine zT (f := 20) rfl ?_); refine goesL_ (some 21) rfl rfl Try.func20 (by kernel_rfl) rfl #[.agg #[.int .i64 x0_1, .int .i64 x1_1]] rfl (by (try simp only [zW, yA, yB]); first | done | rfl | (simp only [zX, zZ]; rfl)) ?_; (with_reducible refine (spec_DecOk.calls x0_1 x1_1 false _ A8.out).mono ?_); rintro e w19 ⟨rfl, hb⟩; refine ⟨_, rfl, ?_⟩; have n0_ := zA (zP (g := gb136) (o := .cells #[.int .i64 0, .int .i64 0] 26 (0, 0)) (by (with_reducible repeat (first | refine zB ?_ _ | refine zD ?_ | refine zC ?_ _)); refine blk_far ?_ NB136_137.out _; (with_reducible repeat (first | refine zB ?_ _ | refine zD ?_ | refine zC ?_ _)); refine blk_far ?_ NB136_137.out _; (with_reducible repeat (first | refine zB ?_ _ | refine zD ?_ | refine zC ?_ _)); exact BK136.out) hb); have n1_ := zA (zP (g := gb137) (o := .cells #[.int .i64 x0_1, .int .i64 x1_1] 26 (0, 0)) (by (with_reducible repeat (first | refine zB ?_ _ | refine zD ?_ | refine zC ?_ _)); refine blk_put (cs := #[.int .i64 x0_1, .int .i64 0]) ?_ 1 _ rfl; (with_reducible repeat (first | refine zB ?_ _ | refine zD ?_ | refine zC ?_ _)); refine blk_put (cs := #[.int .i64 0, .int .i64 0]) ?_ 0 _ rfl; (with_reducible repeat (first | refine zB ?_ _ | refine zD ?_ | refine zC ?_ _)); exact BK137.out) hb); have n2_ := zA (zQ (by repeat (first | (with_reducible first | exact HB.out | apply zG | apply zE | apply zF | refine zH ?_ GE136.out | refine zH ?_ GE137.out) | exact HB.out)) hb); clear BK136; clear BK137; clear HB; have BK136 := n0_; have BK137 := n1_; have HB := n2_; clear n0_ n1_ n2_; (try clear hb); (try clear hb2); (try clear hk); (try clear hi); have hcz20_0 : w19.cell? ⟨gb136, 0, none⟩ = some (.int .i64 0) := (zJ BK136.out 0).trans rfl; have hcz20_1 : w19.cell? ⟨gb136, 1, none⟩ = some (.int .i64 0) := (zJ BK136.out 1).trans rfl; have hfz20_0 := zK BK136.out 0; have hfz20_1 := zK BK136.out 1))
      refine bodyPost_ret (results_ct rfl _ _ gb136 26 #[.int .i64 0, .int .i64 0] (0, 0) _ rfl (by (with_reducible repeat (first | refine zB ?_ _ | refine zD ?_ | refine zC ?_ _)); refine blk_put (cs := #[.int .i64 0, .int .i64 0]) ?_ 1 _ rfl; (with_reducible repeat (first | refine zB ?_ _ | refine zD ?_ | refine zC ?_ _)); refine blk_put (cs := #[.int .i64 0, .int .i64 0]) ?_ 0 _ rfl; (with_reducible repeat (first | refine zB ?_ _ | refine zD ?_ | refine zC ?_ _)); exact BK136.out) Try.underlying26 rfl (by kernel_rfl)) rfl ?_
      exact ⟨by first | rfl | (simp [errW_none, errW_some] <;> rfl) | (simp [*, errW_none, errW_some] <;> rfl), by repeat (first | (with_reducible first | exact HB.out | apply zG | apply zE | apply zF | refine zH ?_ GE136.out | refine zH ?_ GE137.out) | exact HB.out)⟩

end Go.Proofs.Ytmoaolcioihjnaa.Q

namespace Go.Proofs.Ytmoaolcioihjnaa.Q
open Go.RowKit Go.Proofs.YtmoaolcioihjnaaW.PrintWords Go.Proofs.YtmoaolcioihjnaaW.PrintLast Go.Proofs.YtmoaolcioihjnaaW.PrintMore Go.Proofs.YtmoaolcioihjnaaX
attribute [local go_sem] max2_int min2_int max_two min_two max_three min_three max_four min_four   -- for this text's walks alone
set_option linter.unusedVariables false
set_option linter.unusedSimpArgs false

def spec_l14Dec.f (k : Nat) (s0_0 : List Int) (s0_1 : Int) : Option (Int × Int × Int) := (spec_l1Rd_pick.f k s0_0 s0_1 20).bind fun bt158 => ((spec_l1Rd_pick.f k s0_0 bt158.2 256).bind fun bt160 => ((spec_l1Rd_pick.f k s0_0 bt160.2 256).bind fun bt162 => ((spec_l1Rd_pick.f k s0_0 bt162.2 256).bind fun bt164 => ((spec_l1Rd_one.f k s0_0 bt164.2 (([bt158.1, wrap64 ((wrap64 (bt160.1 * 256)) + bt162.1), 99999999, 0, wrap64 (-bt164.1), 25, (-99999999)] : List Int))).bind fun bt169 => ((spec_l1Rd_one.f k s0_0 bt169.2 (([0, 0, (-1), (-2), 2, (-8), 8] : List Int))).bind fun bt174 => ((spec_l1New.f k bt169.1 bt174.1).bind fun bt176 => (if bt176.2.2 = true then (some (bt176.1, bt176.2.1, bt174.2)) else (some (1, 0, bt174.2)))))))))
theorem spec_l14Dec.mono : ∀ a0 a1 k, LeO (spec_l14Dec.f k a0 a1) (spec_l14Dec.f (k + 1) a0 a1) := by
 intro a0 a1 k
 unfold spec_l14Dec.f
 repeat' first
   | (with_reducible exact spec_l1New.mono _ _ _)
   | (with_reducible exact spec_l1Rd_one.mono _ _ _ _)
   | (with_reducible exact spec_l1Rd_pick.mono _ _ _ _)
   | (with_reducible exact LeO.refl _)
   | (with_reducible exact LeO.none _)
   | (with_reducible refine LeO.ite ?_ ?_)
   | (with_reducible refine LeO.bind ?_ (fun _ => ?_))
   | exact spec_l1New.mono _ _ _
   | exact spec_l1Rd_one.mono _ _ _ _
   | exact spec_l1Rd_pick.mono _ _ _ _
   | exact LeO.none _
   | refine LeO.ite ?_ ?_
   | refine LeO.bind ?_ (fun _ => ?_)
set_option maxHeartbeats 8000000 in
set_option maxRecDepth 100000 in
theorem spec_l14Dec.calls (k : Nat) (g : Nat) (s0_0 : List Int) (s0_1 : Int) (r1 : Int) (r2 : Int) (r3 : Int) (w0 w : World) (hI : IsS61 w0 w g s0_0 s0_1) (hB : Below w0.heap.size w0 w) (h : spec_l14Dec.f k s0_0 s0_1 = some (r1, r2, r3)) :
  Calls Try.prog 65 #[.pointer (some ⟨g, 0, none⟩)] w fun e w' => e = .returned (.agg #[.int .i64 r1, .int .i64 r2]) ∧ IsS61 w0 w' g s0_0 r3 ∧ Below w0.heap.size w0 w' ∧ KeepBut w w' g none := by
 have hu26 := Try.underlying26
 have HI0 := zA hI
 have HK := zA (KeepBut.refl w g none)
 have HL := zA hB.size
 clear hI
 have HW0 := zA hB.size
 have HB := zA hB
 clear hB
 have H : ((spec_l1Rd_pick.f k s0_0 s0_1 20).bind fun bt158 => ((spec_l1Rd_pick.f k s0_0 bt158.2 256).bind fun bt160 => ((spec_l1Rd_pick.f k s0_0 bt160.2 256).bind fun bt162 => ((spec_l1Rd_pick.f k s0_0 bt162.2 256).bind fun bt164 => ((spec_l1Rd_one.f k s0_0 bt164.2 (([bt158.1, wrap64 ((wrap64 (bt160.1 * 256)) + bt162.1), 99999999, 0, wrap64 (-bt164.1), 25, (-99999999)] : List Int))).bind fun bt169 => ((spec_l1Rd_one.f k s0_0 bt169.2 (([0, 0, (-1), (-2), 2, (-8), 8] : List Int))).bind fun bt174 => ((spec_l1New.f k bt169.1 bt174.1).bind fun bt176 => (if bt176.2.2 = true then (some (bt176.1, bt176.2.1, bt174.2)) else (some (1, 0, bt174.2)))))))))) = some (r1, r2, r3) := h
 clear h
 replace H := Option.bind_eq_some_iff.mp H
 obtain ⟨⟨t158, t159⟩, A20, H⟩ := H
 replace H : ((spec_l1Rd_pick.f k s0_0 t159 256).bind fun bt160 => ((spec_l1Rd_pick.f k s0_0 bt160.2 256).bind fun bt162 => ((spec_l1Rd_pick.f k s0_0 bt162.2 256).bind fun bt164 => ((spec_l1Rd_one.f k s0_0 bt164.2 (([t158, wrap64 ((wrap64 (bt160.1 * 256)) + bt162.1), 99999999, 0, wrap64 (-bt164.1), 25, (-99999999)] : List Int))).bind fun bt169 => ((spec_l1Rd_one.f k s0_0 bt169.2 (([0, 0, (-1), (-2), 2, (-8), 8] : List Int))).bind fun bt174 => ((spec_l1New.f k bt169.1 bt174.1).bind fun bt176 => (if bt176.2.2 = true then (some (bt176.1, bt176.2.1, bt174.2)) else (some (1, 0, bt174.2))))))))) = some (r1, r2, r3) := H
 have A2 := zA A20
 clear A20
 replace H := Option.bind_eq_some_iff.mp H
 obtain ⟨⟨t160, t161⟩, A30, H⟩ := H
 replace H : ((spec_l1Rd_pick.f k s0_0 t161 256).bind fun bt162 => ((spec_l1Rd_pick.f k s0_0 bt162.2 256).bind fun bt164 => ((spec_l1Rd_one.f k s0_0 bt164.2 (([t158, wrap64 ((wrap64 (t160 * 256)) + bt162.1), 99999999, 0, wrap64 (-bt164.1), 25, (-99999999)] : List Int))).bind fun bt169 => ((spec_l1Rd_one.f k s0_0 bt169.2 (([0, 0, (-1), (-2), 2, (-8), 8] : List Int))).bind fun bt174 => ((spec_l1New.f k bt169.1 bt174.1).bind fun bt176 => (if bt176.2.2 = true then (some (bt176.1, bt176.2.1, bt174.2)) else (some (1, 0, bt174.2)))))))) = some (r1, r2, r3) := H
 have A3 := zA A30
 clear A30
 replace H := Option.bind_eq_some_iff.mp H
 obtain ⟨⟨t162, t163⟩, A40, H⟩ := H
 replace H : ((spec_l1Rd_pick.f k s0_0 t163 256).bind fun bt164 => ((spec_l1Rd_one.f k s0_0 bt164.2 (([t158, wrap64 ((wrap64 (t160 * 256)) + t162), 99999999, 0, wrap64 (-bt164.1), 25, (-99999999)] : List Int))).bind fun bt169 => ((spec_l1Rd_one.f k s0_0 bt169.2 (([0, 0, (-1), (-2), 2, (-8), 8] : List Int))).bind fun bt174 => ((spec_l1New.f k bt169.1 bt174.1).bind fun bt176 => (if bt176.2.2 = true then (some (bt176.1, bt176.2.1, bt174.2)) else (some (1, 0, bt174.2))))))) = some (r1, r2, r3) := H
 have A4 := zA A40
 clear A40
 replace H := Option.bind_eq_some_iff.mp H
 obtain ⟨⟨t164, t165⟩, A50, H⟩ := H
 replace H : ((spec_l1Rd_one.f k s0_0 t165 (([t158, wrap64 ((wrap64 (t160 * 256)) + t162), 99999999, 0, wrap64 (-t164), 25, (-99999999)] : List Int))).bind fun bt169 => ((spec_l1Rd_one.f k s0_0 bt169.2 (([0, 0, (-1), (-2), 2, (-8), 8] : List Int))).bind fun bt174 => ((spec_l1New.f k bt169.1 bt174.1).bind fun bt176 => (if bt176.2.2 = true then (some (bt176.1, bt176.2.1, bt174.2)) else (some (1, 0, bt174.2)))))) = some (r1, r2, r3) := H
 have A5 := zA A50
 clear A50
 obtain ⟨y166, hy166⟩ : ∃ y_ : List Int, y_ = (([t158, wrap64 ((wrap64 (t160 * 256)) + t162), 99999999, 0, wrap64 (-t164), 25, (-99999999)] : List Int)) := ⟨_, rfl⟩
 replace H : ((spec_l1Rd_one.f k s0_0 t165 y166).bind fun bt169 => ((spec_l1Rd_one.f k s0_0 bt169.2 (([0, 0, (-1), (-2), 2, (-8), 8] : List Int))).bind fun bt174 => ((spec_l1New.f k bt169.1 bt174.1).bind fun bt176 => (if bt176.2.2 = true then (some (bt176.1, bt176.2.1, bt174.2)) else (some (1, 0, bt174.2)))))) = some (r1, r2, r3) := by first | (rw [hy166]; with_reducible exact H) | (have H2_ := (Option.bind_some _ _).symm.trans H; rw [hy166]; with_reducible exact H2_) | (have H2_ := (Option.bind_some _ _).symm.trans H; with_reducible exact H2_) | with_reducible exact H | (rw [hy166]; exact H) | exact H
 have Ny166 := zA hy166
 clear hy166
 replace H := Option.bind_eq_some_iff.mp H
 obtain ⟨⟨t169, t170⟩, A60, H⟩ := H
 replace H : ((spec_l1Rd_one.f k s0_0 t170 (([0, 0, (-1), (-2), 2, (-8), 8] : List Int))).bind fun bt174 => ((spec_l1New.f k t169 bt174.1).bind fun bt176 => (if bt176.2.2 = true then (some (bt176.1, bt176.2.1, bt174.2)) else (some (1, 0, bt174.2))))) = some (r1, r2, r3) := H
 have A6 := zA A60
 clear A60
 obtain ⟨y171, hy171⟩ : ∃ y_ : List Int, y_ = (([0, 0, (-1), (-2), 2, (-8), 8] : List Int)) := ⟨_, rfl⟩
 replace H : ((spec_l1Rd_one.f k s0_0 t170 y171).bind fun bt174 => ((spec_l1New.f k t169 bt174.1).bind fun bt176 => (if bt176.2.2 = true then (some (bt176.1, bt176.2.1, bt174.2)) else (some (1, 0, bt174.2))))) = some (r1, r2, r3) := by first | (rw [hy171]; with_reducible exact H) | (have H2_ := (Option.bind_some _ _).symm.trans H; rw [hy171]; with_reducible exact H2_) | (have H2_ := (Option.bind_some _ _).symm.trans H; with_reducible exact H2_) | with_reducible exact H | (rw [hy171]; exact H) | exact H
 have Ny171 := zA hy171
 clear hy171
 replace H := Option.bind_eq_some_iff.mp H
 obtain ⟨⟨t174, t175⟩, A70, H⟩ := H
 replace H : ((spec_l1New.f k t169 t174).bind fun bt176 => (if bt176.2.2 = true then (some (bt176.1, bt176.2.1, t175)) else (some (1, 0, t175)))) = some (r1, r2, r3) := H
 have A7 := zA A70
 clear A70
 replace H := Option.bind_eq_some_iff.mp H
 obtain ⟨⟨t176, t177, t178⟩, A80, H⟩ := H
 replace H : (if t178 = true then (some (t176, t177, t175)) else (some (1, 0, t175))) = some (r1, r2, r3) := H
 have A8 := zA A80
 clear A80
 by_cases c9 : t178 = true
 ·subst c9
  have H1 : (some (t176, t177, t175)) = some (r1, r2, r3) := by rw [if_pos rfl] at H; exact H
  clear H
  have H := H1
  clear H1
  simp only [Option.some.injEq, Prod.mk.injEq] at H
  obtain ⟨rfl, rfl, rfl⟩ := H
  go_enter Try.func65, Try.ntmps65
  go_wp2_with (first | ((with_reducible refine zS (N := 2) rfl ?_); refine zV ?hg (N := 2) ?hd (cs := #[.int .i64 0, .int .i64 0]) (t := 26) ?hr ?_; (case hd => rfl); (case hg => rfl); (case hr => first | (go_simp; done) | (go_simp; rfl)); intro gb157 hg w10 hbox hb; have n0_ := zA (IsS61.below (by repeat (first | (with_reducible first | exact HI0.out | apply IsS61.alloc | apply IsS61.drewN | apply IsS61.drew | apply IsS61.set_1) | exact HI0.out)) hb); have n1_ := zA (KeepBut.trans (by repeat (first | (with_reducible first | exact HK.out | apply KeepBut.set_ | apply keep_drewN | apply keep_drew | apply keep_alloc) | exact HK.out)) (KeepBut.of_below hb g none) (.inl rfl)); have n2_ := zA (zQ (by repeat (first | (with_reducible first | exact HB.out | apply zG | apply zE | apply zF | refine zH ?_ (IsS61.ge HI0.out)) | exact HB.out)) hb); have n3_ := zA (hbox); have n4_ := zA ((by rw [hg]; exact (keep_size (w := w) (g := g) (row := none) (by repeat (first | (with_reducible first | exact HK.out | apply KeepBut.set_ | apply keep_drewN | apply keep_drew | apply keep_alloc) | exact HK.out))) : w.heap.size ≤ gb157)); have n5_ := zA ((Nat.le_trans HW0.out (by rw [hg]; exact (keep_size (w := w) (g := g) (row := none) (by repeat (first | (with_reducible first | exact HK.out | apply KeepBut.set_ | apply keep_drewN | apply keep_drew | apply keep_alloc) | exact HK.out))) : w.heap.size ≤ gb157) : w0.heap.size ≤ gb157)); have n6_ := zA ((by rw [hg]; exact Nat.ne_of_lt (IsS61.lt (show IsS61 w0 _ g s0_0 s0_1 from by repeat (first | (with_reducible first | exact HI0.out | apply IsS61.alloc | apply IsS61.drewN | apply IsS61.drew | apply IsS61.set_1) | exact HI0.out))) : g ≠ gb157)); have n7_ := zA ((by rw [hg]; exact Nat.ne_of_gt (IsS61.lt (show IsS61 w0 _ g s0_0 s0_1 from by repeat (first | (with_reducible first | exact HI0.out | apply IsS61.alloc | apply IsS61.drewN | apply IsS61.drew | apply IsS61.set_1) | exact HI0.out))) : gb157 ≠ g)); clear HI0; clear HK; clear HB; have HI0 := n0_; have HK := n1_; have HB := n2_; have BK157 := n3_; have GW157 := n4_; have GE157 := n5_; have NB0_157 := n6_; have NB157_0 := n7_; clear n0_ n1_ n2_ n3_ n4_ n5_ n6_ n7_; clear hb hbox hg) | ((with_reducible refine zT (f := 45) rfl ?_); refine goesL_ (some 9) rfl rfl Try.func45 (by kernel_rfl) rfl #[.pointer (some ⟨g, 0, none⟩), .int .i64 20] rfl (by (try simp only [zW, yA, yB]); first | done | rfl | (simp only [zX, zZ]; rfl)) ?_; (with_reducible refine (spec_l1Rd_pick.calls k g s0_0 s0_1 20 t158 t159 w0 _ ?side1 ?side2 A2.out).mono ?_); (case side1 => repeat (first | (with_reducible first | exact HI0.out | apply IsS61.alloc | apply IsS61.drewN | apply IsS61.drew | apply IsS61.set_1 | refine IsS61.far ?_ NB0_157.out _) | exact HI0.out)); (case side2 => repeat (first | (with_reducible first | exact HB.out | apply zG | apply zE | apply zF | refine zH ?_ (IsS61.ge HI0.out) | refine zH ?_ GE157.out) | exact HB.out)); rintro e w11 ⟨rfl, hi, hb, hk⟩; refine ⟨_, rfl, ?_⟩; have n0_ := zA (KeepBut.blk hk (g' := gb157) (o := .cells #[.int .i64 0, .int .i64 0] 26 (0, 0)) (by (with_reducible repeat (first | refine zB ?_ _ | refine zD ?_ | refine zC ?_ _)); exact BK157.out) NB157_0.out (by simp)); have n1_ := zA (KeepBut.trans (by repeat (first | (with_reducible first | exact HK.out | apply KeepBut.set_ | apply keep_drewN | apply keep_drew | apply keep_alloc | refine keep_far ?_ GW157.out _) | exact HK.out)) hk (.inl rfl)); have n2_ := zA (hb); have n3_ := zA (hi); clear BK157; clear HK; clear HB; clear HI0; have BK157 := n0_; have HK := n1_; have HB := n2_; have HI0 := n3_; clear n0_ n1_ n2_ n3_; (try clear hb); (try clear hb2); (try clear hk); (try clear hi)) | ((with_reducible refine zT (f := 45) rfl ?_); refine goesL_ (some 11) rfl rfl Try.func45 (by kernel_rfl) rfl #[.pointer (some ⟨g, 0, none⟩), .int .i64 256] rfl (by (try simp only [zW, yA, yB]); first | done | rfl | (simp only [zX, zZ]; rfl)) ?_; (with_reducible refine (spec_l1Rd_pick.calls k g s0_0 t159 256 t160 t161 w0 _ ?side1 ?side2 A3.out).mono ?_); (case side1 => repeat (first | (with_reducible first | exact HI0.out | apply IsS61.alloc | apply IsS61.drewN | apply IsS61.drew | apply IsS61.set_1 | refine IsS61.far ?_ NB0_157.out _) | exact HI0.out)); (case side2 => repeat (first | (with_reducible first | exact HB.out | apply zG | apply zE | apply zF | refine zH ?_ (IsS61.ge HI0.out) | refine zH ?_ GE157.out) | exact HB.out)); rintro e w12 ⟨rfl, hi, hb, hk⟩; refine ⟨_, rfl, ?_⟩; have n0_ := zA (KeepBut.blk hk (g' := gb157) (o := .cells #[.int .i64 0, .int .i64 0] 26 (0, 0)) (by (with_reducible repeat (first | refine zB ?_ _ | refine zD ?_ | refine zC ?_ _)); exact BK157.out) NB157_0.out (by simp)); have n1_ := zA (KeepBut.trans (by repeat (first | (with_reducible first | exact HK.out | apply KeepBut.set_ | apply keep_drewN | apply keep_drew | apply keep_alloc | refine keep_far ?_ GW157.out _) | exact HK.out)) hk (.inl rfl)); have n2_ := zA (hb); have n3_ := zA (hi); clear BK157; clear HK; clear HB; clear HI0; have BK157 := n0_; have HK := n1_; have HB := n2_; have HI0 := n3_; clear n0_ n1_ n2_ n3_; (try clear hb); (try clear hb2); (try clear hk); (try clear hi)) | ((with_reducible refine zT (f := 45) rfl ?_); refine goesL_ (some 14) rfl rfl Try.func45 (by kernel_rfl) rfl #[.pointer (some ⟨g, 0, none⟩), .int .i64 256] rfl (by (try simp only [zW, yA, yB]); first | done | rfl | (simp only [zX, zZ]; rfl)) ?_; (with_reducible refine (spec_l1Rd_pick.calls k g s0_0 t161 256 t162 t163 w0 _ ?side1 ?side2 A4.out).mono ?_); (case side1 => repeat (first | (with_reducible first | exact HI0.out | apply IsS61.alloc | apply IsS61.drewN | apply IsS61.drew | apply IsS61.set_1 | refine IsS61.far ?_ NB0_157.out _) | exact HI0.out)); (case side2 => repeat (first | (with_reducible first | exact HB.out | apply zG | apply zE | apply zF | refine zH ?_ (IsS61.ge HI0.out) | refine zH ?_ GE157.out) | exact HB.out)); rintro e w13 ⟨rfl, hi, hb, hk⟩; refine ⟨_, rfl, ?_⟩; have n0_ := zA (KeepBut.blk hk (g' := gb157) (o := .cells #[.int .i64 0, .int .i64 0] 26 (0, 0)) (by (with_reducible repeat (first | refine zB ?_ _ | refine zD ?_ | refine zC ?_ _)); exact BK157.out) NB157_0.out (by simp)); have n1_ := zA (KeepBut.trans (by repeat (first | (with_reducible first | exact HK.out | apply KeepBut.set_ | apply keep_drewN | apply keep_drew | apply keep_alloc | refine keep_far ?_ GW157.out _) | exact HK.out)) hk (.inl rfl)); have n2_ := zA (hb); have n3_ := zA (hi); clear BK157; clear HK; clear HB; clear HI0; have BK157 := n0_; have HK := n1_; have HB := n2_; have HI0 := n3_; clear n0_ n1_ n2_ n3_; (try clear hb); (try clear hb2); (try clear hk); (try clear hi)) | ((with_reducible refine zT (f := 45) rfl ?_); refine goesL_ (some 17) rfl rfl Try.func45 (by kernel_rfl) rfl #[.pointer (some ⟨g, 0, none⟩), .int .i64 256] rfl (by (try simp only [zW, yA, yB]); first | done | rfl | (simp only [zX, zZ]; rfl)) ?_; (with_reducible refine (spec_l1Rd_pick.calls k g s0_0 t163 256 t164 t165 w0 _ ?side1 ?side2 A5.out).mono ?_); (case side1 => repeat (first | (with_reducible first | exact HI0.out | apply IsS61.alloc | apply IsS61.drewN | apply IsS61.drew | apply IsS61.set_1 | refine IsS61.far ?_ NB0_157.out _) | exact HI0.out)); (case side2 => repeat (first | (with_reducible first | exact HB.out | apply zG | apply zE | apply zF | refine zH ?_ (IsS61.ge HI0.out) | refine zH ?_ GE157.out) | exact HB.out)); rintro e w14 ⟨rfl, hi, hb, hk⟩; refine ⟨_, rfl, ?_⟩; have n0_ := zA (KeepBut.blk hk (g' := gb157) (o := .cells #[.int .i64 0, .int .i64 0] 26 (0, 0)) (by (with_reducible repeat (first | refine zB ?_ _ | refine zD ?_ | refine zC ?_ _)); exact BK157.out) NB157_0.out (by simp)); have n1_ := zA (KeepBut.trans (by repeat (first | (with_reducible first | exact HK.out | apply KeepBut.set_ | apply keep_drewN | apply keep_drew | apply keep_alloc | refine keep_far ?_ GW157.out _) | exact HK.out)) hk (.inl rfl)); have n2_ := zA (hb); have n3_ := zA (hi); clear BK157; clear HK; clear HB; clear HI0; have BK157 := n0_; have HK := n1_; have HB := n2_; have HI0 := n3_; clear n0_ n1_ n2_ n3_; (try clear hb); (try clear hb2); (try clear hk); (try clear hi)) | ((with_reducible refine zS (N := 19) rfl ?_); refine Kd.R_lit (Kd.int .i64) _ 3 ?hg (N := 19) ?hd (xs := ([t158, wrap64 ((wrap64 (t160 * 256)) + t162), 99999999, 0, wrap64 (-t164), 25, (-99999999)] : List Int)) (inner := [.int .i64 t158, .int .i64 (wrap64 ((wrap64 (t160 * 256)) + t162)), .int .i64 99999999, .int .i64 0, .int .i64 (wrap64 (-t164)), .int .i64 25, .int .i64 (-99999999)]) (ok := fun _ => True) (okp := fun _ => True) ?hr ?hp (fun _ hk => hk) trivial (Below.refl _ _) (Nat.le_refl _) (by simp) ?_; (case hd => rfl); (case hg => rfl); (case hr => first | (go_simp; done) | (go_simp; rfl)); (case hp => exact (Reps.one (show Kd.M (Kd.int .i64) _ _ _ t158 [.int .i64 t158] from rfl) (Reps.one (show Kd.M (Kd.int .i64) _ _ _ (wrap64 ((wrap64 (t160 * 256)) + t162)) [.int .i64 (wrap64 ((wrap64 (t160 * 256)) + t162))] from rfl) (Reps.one (show Kd.M (Kd.int .i64) _ _ _ 99999999 [.int .i64 99999999] from rfl) (Reps.one (show Kd.M (Kd.int .i64) _ _ _ 0 [.int .i64 0] from rfl) (Reps.one (show Kd.M (Kd.int .i64) _ _ _ (wrap64 (-t164)) [.int .i64 (wrap64 (-t164))] from rfl) (Reps.one (show Kd.M (Kd.int .i64) _ _ _ 25 [.int .i64 25] from rfl) (Reps.one (show Kd.M (Kd.int .i64) _ _ _ (-99999999) [.int .i64 (-99999999)] from rfl) (Reps.none _ _))))))))); intro v167 w15 ho16 hb hg_ hnew_; clear hg_ hnew_; (first | rw [← Ny166.out] at ho16 | (simp only [Int.reduceToNat] at ho16; rw [← Ny166.out] at ho16)); have n0_ := zA (Kd.R_lower ho16 (keep_size (w := w) (g := g) (row := none) (by repeat (first | (with_reducible first | exact HK.out | apply KeepBut.set_ | apply keep_drewN | apply keep_drew | apply keep_alloc | refine keep_far ?_ GW157.out _) | exact HK.out)))); have n1_ := zA (IsS61.below (by repeat (first | (with_reducible first | exact HI0.out | apply IsS61.alloc | apply IsS61.drewN | apply IsS61.drew | apply IsS61.set_1 | refine IsS61.far ?_ NB0_157.out _) | exact HI0.out)) hb); have n2_ := zA (zP (g := gb157) (o := .cells #[.int .i64 0, .int .i64 0] 26 (0, 0)) (by (with_reducible repeat (first | refine zB ?_ _ | refine zD ?_ | refine zC ?_ _)); exact BK157.out) hb); have n3_ := zA (KeepBut.trans (by repeat (first | (with_reducible first | exact HK.out | apply KeepBut.set_ | apply keep_drewN | apply keep_drew | apply keep_alloc | refine keep_far ?_ GW157.out _) | exact HK.out)) (KeepBut.of_below hb g none) (.inl rfl)); have n4_ := zA (zQ (by repeat (first | (with_reducible first | exact HB.out | apply zG | apply zE | apply zF | refine zH ?_ (IsS61.ge HI0.out) | refine zH ?_ GE157.out) | exact HB.out)) hb); clear HI0; clear BK157; clear HK; clear HB; have HO168 := n0_; have HI0 := n1_; have BK157 := n2_; have HK := n3_; have HB := n4_; clear n0_ n1_ n2_ n3_ n4_; clear hb ho16; obtain ⟨Ao17, co17, eo17⟩ := Kd.R_slice HO168.out; subst eo17) | ((with_reducible refine zT (f := 44) rfl ?_); refine goesL_ (some 20) rfl rfl Try.func44 (by kernel_rfl) rfl #[.pointer (some ⟨g, 0, none⟩), .slice Ao17 y166.length co17] rfl (by (try simp only [zW, yA, yB]); first | done | rfl | (simp only [zX, zZ]; rfl)) ?_; (with_reducible refine (spec_l1Rd_one.calls k g s0_0 t165 _ _ y166 t169 t170 w0 _ ?side1 ?side2 ?side3 ?side4 ?side5 A6.out).mono ?_); (case side1 => repeat (first | (with_reducible first | exact HI0.out | apply IsS61.alloc | apply IsS61.drewN | apply IsS61.drew | apply IsS61.set_1 | refine IsS61.far ?_ NB0_157.out _) | exact HI0.out)); (case side2 => repeat (first | (with_reducible first | exact HB.out | apply zG | apply zE | apply zF | refine zH ?_ (IsS61.ge HI0.out) | refine zH ?_ GE157.out) | exact HB.out)); (case side3 => repeat (first | exact (Kd.R_reads' HO168.out).2.2 | (with_reducible refine Kd.C_alloc ?_ _) | (with_reducible refine Kd.C_drewN ?_ _) | (with_reducible refine Kd.C_drew ?_))); (case side4 => exact (Kd.R_reads' HO168.out).2.1); (case side5 => exact far_slice (IsS61.own_ne HI0.out HO168.out (by decide))); rintro e w18 ⟨rfl, hi, hb, hk⟩; refine ⟨_, rfl, ?_⟩; have n0_ := zA (KeepBut.blk hk (g' := gb157) (o := .cells #[.int .i64 0, .int .i64 0] 26 (0, 0)) (by (with_reducible repeat (first | refine zB ?_ _ | refine zD ?_ | refine zC ?_ _)); exact BK157.out) NB157_0.out (by simp)); have n1_ := zA (Kd.R_mono (Kd.R_keep (IsS61.apart (show IsS61 w0 _ g s0_0 t165 from by repeat (first | (with_reducible first | exact HI0.out | apply IsS61.alloc | apply IsS61.drewN | apply IsS61.drew | apply IsS61.set_1 | refine IsS61.far ?_ NB0_157.out _) | exact HI0.out)) (by (with_reducible repeat (first | apply Kd.R_alloc | apply Kd.R_drewN | apply Kd.R_drew)); exact HO168.out) (by decide)) hk (fun _ h => h.2)) (fun _ h => h.1)); have n2_ := zA (KeepBut.trans (by repeat (first | (with_reducible first | exact HK.out | apply KeepBut.set_ | apply keep_drewN | apply keep_drew | apply keep_alloc | refine keep_far ?_ GW157.out _) | exact HK.out)) hk (.inl rfl)); have n3_ := zA (hb); have n4_ := zA (hi); clear BK157; clear HO168; clear HK; clear HB; clear HI0; have BK157 := n0_; have HO168 := n1_; have HK := n2_; have HB := n3_; have HI0 := n4_; clear n0_ n1_ n2_ n3_ n4_; (try clear hb); (try clear hb2); (try clear hk); (try clear hi)) | ((with_reducible refine zS (N := 22) rfl ?_); refine Kd.R_lit (Kd.int .i64) _ 3 ?hg (N := 22) ?hd (xs := ([0, 0, (-1), (-2), 2, (-8), 8] : List Int)) (inner := [.int .i64 0, .int .i64 0, .int .i64 (-1), .int .i64 (-2), .int .i64 2, .int .i64 (-8), .int .i64 8]) (ok := fun _ => True) (okp := fun _ => True) ?hr ?hp (fun _ hk => hk) trivial (Below.refl _ _) (Nat.le_refl _) (by simp) ?_; (case hd => rfl); (case hg => rfl); (case hr => first | (go_simp; done) | (go_simp; rfl)); (case hp => exact (Reps.one (show Kd.M (Kd.int .i64) _ _ _ 0 [.int .i64 0] from rfl) (Reps.one (show Kd.M (Kd.int .i64) _ _ _ 0 [.int .i64 0] from rfl) (Reps.one (show Kd.M (Kd.int .i64) _ _ _ (-1) [.int .i64 (-1)] from rfl) (Reps.one (show Kd.M (Kd.int .i64) _ _ _ (-2) [.int .i64 (-2)] from rfl) (Reps.one (show Kd.M (Kd.int .i64) _ _ _ 2 [.int .i64 2] from rfl) (Reps.one (show Kd.M (Kd.int .i64) _ _ _ (-8) [.int .i64 (-8)] from rfl) (Reps.one (show Kd.M (Kd.int .i64) _ _ _ 8 [.int .i64 8] from rfl) (Reps.none _ _))))))))); intro v172 w19 ho20 hb hg_ hnew_; clear hg_ hnew_; (first | rw [← Ny171.out] at ho20 | (simp only [Int.reduceToNat] at ho20; rw [← Ny171.out] at ho20)); have n0_ := zA (Kd.R_elder' (by (with_reducible repeat (first | apply Kd.R_alloc | apply Kd.R_drewN | apply Kd.R_drew)); exact HO168.out) (Kd.R_base ho20) hb); have n1_ := zA (Kd.R_lower (Kd.R_new' ho20 (Kd.R_lt (by (with_reducible repeat (first | apply Kd.R_alloc | apply Kd.R_drewN | apply Kd.R_drew)); exact HO168.out))) (keep_size (w := w) (g := g) (row := none) (by repeat (first | (with_reducible first | exact HK.out | apply KeepBut.set_ | apply keep_drewN | apply keep_drew | apply keep_alloc | refine keep_far ?_ GW157.out _) | exact HK.out)))); have n2_ := zA (IsS61.below (by repeat (first | (with_reducible first | exact HI0.out | apply IsS61.alloc | apply IsS61.drewN | apply IsS61.drew | apply IsS61.set_1 | refine IsS61.far ?_ NB0_157.out _) | exact HI0.out)) hb); have n3_ := zA (zP (g := gb157) (o := .cells #[.int .i64 0, .int .i64 0] 26 (0, 0)) (by (with_reducible repeat (first | refine zB ?_ _ | refine zD ?_ | refine zC ?_ _)); exact BK157.out) hb); have n4_ := zA (KeepBut.trans (by repeat (first | (with_reducible first | exact HK.out | apply KeepBut.set_ | apply keep_drewN | apply keep_drew | apply keep_alloc | refine keep_far ?_ GW157.out _) | exact HK.out)) (KeepBut.of_below hb g none) (.inl rfl)); have n5_ := zA (zQ (by repeat (first | (with_reducible first | exact HB.out | apply zG | apply zE | apply zF | refine zH ?_ (IsS61.ge HI0.out) | refine zH ?_ GE157.out) | exact HB.out)) hb); clear HO168; clear HI0; clear BK157; clear HK; clear HB; have HO168 := n0_; have HO173 := n1_; have HI0 := n2_; have BK157 := n3_; have HK := n4_; have HB := n5_; clear n0_ n1_ n2_ n3_ n4_ n5_; clear hb ho20; obtain ⟨Ao21, co21, eo21⟩ := Kd.R_slice HO173.out; subst eo21) | ((with_reducible refine zT (f := 44) rfl ?_); refine goesL_ (some 23) rfl rfl Try.func44 (by kernel_rfl) rfl #[.pointer (some ⟨g, 0, none⟩), .slice Ao21 y171.length co21] rfl (by (try simp only [zW, yA, yB]); first | done | rfl | (simp only [zX, zZ]; rfl)) ?_; (with_reducible refine (spec_l1Rd_one.calls k g s0_0 t170 _ _ y171 t174 t175 w0 _ ?side1 ?side2 ?side3 ?side4 ?side5 A7.out).mono ?_); (case side1 => repeat (first | (with_reducible first | exact HI0.out | apply IsS61.alloc | apply IsS61.drewN | apply IsS61.drew | apply IsS61.set_1 | refine IsS61.far ?_ NB0_157.out _) | exact HI0.out)); (case side2 => repeat (first | (with_reducible first | exact HB.out | apply zG | apply zE | apply zF | refine zH ?_ (IsS61.ge HI0.out) | refine zH ?_ GE157.out) | exact HB.out)); (case side3 => repeat (first | exact (Kd.R_reads' HO173.out).2.2 | (with_reducible refine Kd.C_alloc ?_ _) | (with_reducible refine Kd.C_drewN ?_ _) | (with_reducible refine Kd.C_drew ?_))); (case side4 => exact (Kd.R_reads' HO173.out).2.1); (case side5 => exact far_slice (IsS61.own_ne HI0.out HO173.out (by decide))); rintro e w22 ⟨rfl, hi, hb, hk⟩; refine ⟨_, rfl, ?_⟩; have n0_ := zA (KeepBut.blk hk (g' := gb157) (o := .cells #[.int .i64 0, .int .i64 0] 26 (0, 0)) (by (with_reducible repeat (first | refine zB ?_ _ | refine zD ?_ | refine zC ?_ _)); exact BK157.out) NB157_0.out (by simp)); have n1_ := zA (Kd.R_mono (Kd.R_keep (IsS61.apart (show IsS61 w0 _ g s0_0 t170 from by repeat (first | (with_reducible first | exact HI0.out | apply IsS61.alloc | apply IsS61.drewN | apply IsS61.drew | apply IsS61.set_1 | refine IsS61.far ?_ NB0_157.out _) | exact HI0.out)) (by (with_reducible repeat (first | apply Kd.R_alloc | apply Kd.R_drewN | apply Kd.R_drew)); exact HO168.out) (by decide)) hk (fun _ h => h.2)) (fun _ h => h.1)); have n2_ := zA (Kd.R_mono (Kd.R_keep (IsS61.apart (show IsS61 w0 _ g s0_0 t170 from by repeat (first | (with_reducible first | exact HI0.out | apply IsS61.alloc | apply IsS61.drewN | apply IsS61.drew | apply IsS61.set_1 | refine IsS61.far ?_ NB0_157.out _) | exact HI0.out)) (by (with_reducible repeat (first | apply Kd.R_alloc | apply Kd.R_drewN | apply Kd.R_drew)); exact HO173.out) (by decide)) hk (fun _ h => h.2)) (fun _ h => h.1)); have n3_ := zA (KeepBut.trans (by repeat (first | (with_reducible first | exact HK.out | apply KeepBut.set_ | apply keep_drewN | apply keep_drew | apply keep_alloc | refine keep_far ?_ GW157.out _) | exact HK.out)) hk (.inl rfl)); have n4_ := zA (hb); have n5_ := zA (hi); clear BK157; clear HO168; clear HO173; clear HK; clear HB; clear HI0; have BK157 := n0_; have HO168 := n1_; have HO173 := n2_; have HK := n3_; have HB := n4_; have HI0 := n5_; clear n0_ n1_ n2_ n3_ n4_ n5_; (try clear hb); (try clear hb2); (try clear hk); (try clear hi)) | ((with_reducible refine zT (f := 49) rfl ?_); refine goesL_ (some 27) rfl rfl Try.func49 (by kernel_rfl) rfl #[.int .i64 t169, .int .i64 t174] rfl (by (try simp only [zW, yA, yB]); first | done | rfl | (simp only [zX, zZ]; rfl)) ?_; (with_reducible refine (spec_l1New.calls k t169 t174 t176 t177 true _ A8.out).mono ?_); rintro e w23 ⟨rfl, hb⟩; refine ⟨_, rfl, ?_⟩; have n0_ := zA (Kd.R_below (by (with_reducible repeat (first | apply Kd.R_alloc | apply Kd.R_drewN | apply Kd.R_drew)); exact HO168.out) hb); have n1_ := zA (Kd.R_below (by (with_reducible repeat (first | apply Kd.R_alloc | apply Kd.R_drewN | apply Kd.R_drew)); exact HO173.out) hb); have n2_ := zA (IsS61.below (by repeat (first | (with_reducible first | exact HI0.out | apply IsS61.alloc | apply IsS61.drewN | apply IsS61.drew | apply IsS61.set_1 | refine IsS61.far ?_ NB0_157.out _) | exact HI0.out)) hb); have n3_ := zA (zP (g := gb157) (o := .cells #[.int .i64 0, .int .i64 0] 26 (0, 0)) (by (with_reducible repeat (first | refine zB ?_ _ | refine zD ?_ | refine zC ?_ _)); exact BK157.out) hb); have n4_ := zA (KeepBut.trans (by repeat (first | (with_reducible first | exact HK.out | apply KeepBut.set_ | apply keep_drewN | apply keep_drew | apply keep_alloc | refine keep_far ?_ GW157.out _) | exact HK.out)) (KeepBut.of_below hb g none) (.inl rfl)); have n5_ := zA (zQ (by repeat (first | (with_reducible first | exact HB.out | apply zG | apply zE | apply zF | refine zH ?_ (IsS61.ge HI0.out) | refine zH ?_ GE157.out) | exact HB.out)) hb); clear HO168; clear HO173; clear HI0; clear BK157; clear HK; clear HB; have HO168 := n0_; have HO173 := n1_; have HI0 := n2_; have BK157 := n3_; have HK := n4_; have HB := n5_; clear n0_ n1_ n2_ n3_ n4_ n5_; (try clear hb); (try clear hb2); (try clear hk); (try clear hi)) | ((with_reducible refine zS (N := 5) rfl ?_); refine zV ?hg (N := 5) ?hd (cs := #[.int .i64 0, .int .i64 0]) (t := 26) ?hr ?_; (case hd => rfl); (case hg => rfl); (case hr => first | (go_simp; done) | (go_simp; rfl)); intro gb179 hg w24 hbox hb; have n0_ := zA (Kd.R_below (by (with_reducible repeat (first | apply Kd.R_alloc | apply Kd.R_drewN | apply Kd.R_drew)); exact HO168.out) hb); have n1_ := zA (Kd.R_below (by (with_reducible repeat (first | apply Kd.R_alloc | apply Kd.R_drewN | apply Kd.R_drew)); exact HO173.out) hb); have n2_ := zA (IsS61.below (by repeat (first | (with_reducible first | exact HI0.out | apply IsS61.alloc | apply IsS61.drewN | apply IsS61.drew | apply IsS61.set_1 | refine IsS61.far ?_ NB0_157.out _) | exact HI0.out)) hb); have n3_ := zA (zP (g := gb157) (o := .cells #[.int .i64 0, .int .i64 0] 26 (0, 0)) (by (with_reducible repeat (first | refine zB ?_ _ | refine zD ?_ | refine zC ?_ _)); exact BK157.out) hb); have n4_ := zA (KeepBut.trans (by repeat (first | (with_reducible first | exact HK.out | apply KeepBut.set_ | apply keep_drewN | apply keep_drew | apply keep_alloc | refine keep_far ?_ GW157.out _) | exact HK.out)) (KeepBut.of_below hb g none) (.inl rfl)); have n5_ := zA (zQ (by repeat (first | (with_reducible first | exact HB.out | apply zG | apply zE | apply zF | refine zH ?_ (IsS61.ge HI0.out) | refine zH ?_ GE157.out) | exact HB.out)) hb); have n6_ := zA (hbox); have n7_ := zA ((by rw [hg]; exact (keep_size (w := w) (g := g) (row := none) (by repeat (first | (with_reducible first | exact HK.out | apply KeepBut.set_ | apply keep_drewN | apply keep_drew | apply keep_alloc | refine keep_far ?_ GW157.out _) | exact HK.out))) : w.heap.size ≤ gb179)); have n8_ := zA ((Nat.le_trans HW0.out (by rw [hg]; exact (keep_size (w := w) (g := g) (row := none) (by repeat (first | (with_reducible first | exact HK.out | apply KeepBut.set_ | apply keep_drewN | apply keep_drew | apply keep_alloc | refine keep_far ?_ GW157.out _) | exact HK.out))) : w.heap.size ≤ gb179) : w0.heap.size ≤ gb179)); have n9_ := zA ((by rw [hg]; exact Nat.ne_of_lt (blk_lt (g := gb157) (o := .cells #[.int .i64 0, .int .i64 0] 26 (0, 0)) (by (with_reducible repeat (first | refine zB ?_ _ | refine zD ?_ | refine zC ?_ _)); exact BK157.out)) : gb157 ≠ gb179)); have n10_ := zA ((by rw [hg]; exact Nat.ne_of_gt (blk_lt (g := gb157) (o := .cells #[.int .i64 0, .int .i64 0] 26 (0, 0)) (by (with_reducible repeat (first | refine zB ?_ _ | refine zD ?_ | refine zC ?_ _)); exact BK157.out)) : gb179 ≠ gb157)); have n11_ := zA ((by rw [hg]; exact Nat.ne_of_lt (IsS61.lt (show IsS61 w0 _ g s0_0 t175 from by repeat (first | (with_reducible first | exact HI0.out | apply IsS61.alloc | apply IsS61.drewN | apply IsS61.drew | apply IsS61.set_1 | refine IsS61.far ?_ NB0_157.out _) | exact HI0.out))) : g ≠ gb179)); have n12_ := zA ((by rw [hg]; exact Nat.ne_of_gt (IsS61.lt (show IsS61 w0 _ g s0_0 t175 from by repeat (first | (with_reducible first | exact HI0.out | apply IsS61.alloc | apply IsS61.drewN | apply IsS61.drew | apply IsS61.set_1 | refine IsS61.far ?_ NB0_157.out _) | exact HI0.out))) : gb179 ≠ g)); clear HO168; clear HO173; clear HI0; clear BK157; clear HK; clear HB; have HO168 := n0_; have HO173 := n1_; have HI0 := n2_; have BK157 := n3_; have HK := n4_; have HB := n5_; have BK179 := n6_; have GW179 := n7_; have GE179 := n8_; have NB157_179 := n9_; have NB179_157 := n10_; have NB0_179 := n11_; have NB179_0 := n12_; clear n0_ n1_ n2_ n3_ n4_ n5_ n6_ n7_ n8_ n9_ n10_ n11_ n12_; clear hb hbox hg; have hnb25 := NB179_157.out; have hnc25 := NB157_179.out; have hnb26 := NB179_0.out; have hnc26 := NB0_179.out; have hcz27_0 : w24.cell? ⟨gb179, 0, none⟩ = some (.int .i64 0) := (zJ BK179.out 0).trans rfl; have hcz27_1 : w24.cell? ⟨gb179, 1, none⟩ = some (.int .i64 0) := (zJ BK179.out 1).trans rfl; have hfz27_0 := zK BK179.out 0; have hfz27_1 := zK BK179.out 1; have hnb28 := NB157_0.out; have hnc28 := NB0_157.out; have hcz29_0 : w24.cell? ⟨gb157, 0, none⟩ = some (.int .i64 0) := (zJ BK157.out 0).trans rfl; have hcz29_1 : w24.cell? ⟨gb157, 1, none⟩ = some (.int .i64 0) := (zJ BK157.out 1).trans rfl; have hfz29_0 := zK BK157.out 0; have hfz29_1 := zK BK157.out 1))
  refine bodyPost_ret (results_cell_row rfl _ _ gb157 26 #[.int .i64 t176, .int .i64 t177] (0, 0) _ rfl (by (with_reducible repeat (first | refine zB ?_ _ | refine zD ?_ | refine zC ?_ _)); refine blk_put (cs := #[.int .i64 t176, .int .i64 0]) ?_ 1 _ rfl; (with_reducible repeat (first | refine zB ?_ _ | refine zD ?_ | refine zC ?_ _)); refine blk_put (cs := #[.int .i64 0, .int .i64 0]) ?_ 0 _ rfl; (with_reducible repeat (first | refine zB ?_ _ | refine zD ?_ | refine zC ?_ _)); refine blk_far ?_ NB157_179.out _; (with_reducible repeat (first | refine zB ?_ _ | refine zD ?_ | refine zC ?_ _)); refine blk_far ?_ NB157_179.out _; (with_reducible repeat (first | refine zB ?_ _ | refine zD ?_ | refine zC ?_ _)); exact BK157.out) Try.underlying26 rfl (by kernel_rfl)) rfl ?_
  exact ⟨by first | rfl | (simp [errW_none, errW_some] <;> rfl) | (simp [*, errW_none, errW_some] <;> rfl), by repeat (first | (with_reducible first | exact HI0.out | apply IsS61.alloc | apply IsS61.drewN | apply IsS61.drew | apply IsS61.set_1 | refine IsS61.far ?_ NB0_157.out _ | refine IsS61.far ?_ NB0_179.out _) | exact HI0.out), by repeat (first | (with_reducible first | exact HB.out | apply zG | apply zE | apply zF | refine zH ?_ (IsS61.ge HI0.out) | refine zH ?_ GE157.out | refine zH ?_ GE179.out) | exact HB.out), by repeat (first | (with_reducible first | exact HK.out | apply KeepBut.set_ | apply keep_drewN | apply keep_drew | apply keep_alloc | refine keep_far ?_ GW157.out _ | refine keep_far ?_ GW179.out _) | exact HK.out)⟩
 ·replace c9 := Bool.eq_false_iff.mpr c9
  subst c9
  have H1 : (some (1, 0, t175)) = some (r1, r2, r3) := by rw [if_neg (show ¬ (false = true) by decide)] at H; exact H
  clear H
  have H := H1
  clear H1
  simp only [Option.some.injEq, Prod.mk.injEq] at H
  obtain ⟨rfl, rfl, rfl⟩ := H
  go_enter Try.func65, Try.ntmps65
  go_wp2_with (first | ((with_reducible refine zS (N := 2) rfl ?_); refine zV ?hg (N := 2) ?hd (cs := #[.int .i64 0, .int .i64 0]) (t := 26) ?hr ?_; (case hd => rfl); (case hg => rfl); (case hr => first | (go_simp; done) | (go_simp; rfl)); intro gb157 hg w30 hbox hb; have n0_ := zA (IsS61.below (by repeat (first | (with_reducible first | exact HI0.out | apply IsS61.alloc | apply IsS61.drewN | apply IsS61.drew | apply IsS61.set_1) | exact HI0.out)) hb); have n1_ := zA (KeepBut.trans (by repeat (first | (with_reducible first | exact HK.out | apply KeepBut.set_ | apply keep_drewN | apply keep_drew | apply keep_alloc) | exact HK.out)) (KeepBut.of_below hb g none) (.inl rfl)); have n2_ := zA (zQ (by repeat (first | (with_reducible first | exact HB.out | apply zG | apply zE | apply zF | refine zH ?_ (IsS61.ge HI0.out)) | exact HB.out)) hb); have n3_ := zA (hbox); have n4_ := zA ((by rw [hg]; exact (keep_size (w := w) (g := g) (row := none) (by repeat (first | (with_reducible first | exact HK.out | apply KeepBut.set_ | apply keep_drewN | apply keep_drew | apply keep_alloc) | exact HK.out))) : w.heap.size ≤ gb157)); have n5_ := zA ((Nat.le_trans HW0.out (by rw [hg]; exact (keep_size (w := w) (g := g) (row := none) (by repeat (first | (with_reducible first | exact HK.out | apply KeepBut.set_ | apply keep_drewN | apply keep_drew | apply keep_alloc) | exact HK.out))) : w.heap.size ≤ gb157) : w0.heap.size ≤ gb157)); have n6_ := zA ((by rw [hg]; exact Nat.ne_of_lt (IsS61.lt (show IsS61 w0 _ g s0_0 s0_1 from by repeat (first | (with_reducible first | exact HI0.out | apply IsS61.alloc | apply IsS61.drewN | apply IsS61.drew | apply IsS61.set_1) | exact HI0.out))) : g ≠ gb157)); have n7_ := zA ((by rw [hg]; exact Nat.ne_of_gt (IsS61.lt (show IsS61 w0 _ g s0_0 s0_1 from by repeat (first | (with_reducible first | exact HI0.out | apply IsS61.alloc | apply IsS61.drewN | apply IsS61.drew | apply IsS61.set_1) | exact HI0.out))) : gb157 ≠ g)); clear HI0; clear HK; clear HB; have HI0 := n0_; have HK := n1_; have HB := n2_; have BK157 := n3_; have GW157 := n4_; have GE157 := n5_; have NB0_157 := n6_; have NB157_0 := n7_; clear n0_ n1_ n2_ n3_ n4_ n5_ n6_ n7_; clear hb hbox hg) | ((with_reducible refine zT (f := 45) rfl ?_); refine goesL_ (some 9) rfl rfl Try.func45 (by kernel_rfl) rfl #[.pointer (some ⟨g, 0, none⟩), .int .i64 20] rfl (by (try simp only [zW, yA, yB]); first | done | rfl | (simp only [zX, zZ]; rfl)) ?_; (with_reducible refine (spec_l1Rd_pick.calls k g s0_0 s0_1 20 t158 t159 w0 _ ?side1 ?side2 A2.out).mono ?_); (case side1 => repeat (first | (with_reducible first | exact HI0.out | apply IsS61.alloc | apply IsS61.drewN | apply IsS61.drew | apply IsS61.set_1 | refine IsS61.far ?_ NB0_157.out _) | exact HI0.out)); (case side2 => repeat (first | (with_reducible first | exact HB.out | apply zG | apply zE | apply zF | refine zH ?_ (IsS61.ge HI0.out) | refine zH ?_ GE157.out) | exact HB.out)); rintro e w31 ⟨rfl, hi, hb, hk⟩; refine ⟨_, rfl, ?_⟩; have n0_ := zA (KeepBut.blk hk (g' := gb157) (o := .cells #[.int .i64 0, .int .i64 0] 26 (0, 0)) (by (with_reducible repeat (first | refine zB ?_ _ | refine zD ?_ | refine zC ?_ _)); exact BK157.out) NB157_0.out (by simp)); have n1_ := zA (KeepBut.trans (by repeat (first | (with_reducible first | exact HK.out | apply KeepBut.set_ | apply keep_drewN | apply keep_drew | apply keep_alloc | refine keep_far ?_ GW157.out _) | exact HK.out)) hk (.inl rfl)); have n2_ := zA (hb); have n3_ := zA (hi); clear BK157; clear HK; clear HB; clear HI0; have BK157 := n0_; have HK := n1_; have HB := n2_; have HI0 := n3_; clear n0_ n1_ n2_ n3_; (try clear hb); (try clear hb2); (try clear hk); (try clear hi)) | ((with_reducible refine zT (f := 45) rfl ?_); refine goesL_ (some 11) rfl rfl Try.func45 (by kernel_rfl) rfl #[.pointer (some ⟨g, 0, none⟩), .int .i64 256] rfl (by (try simp only [zW, yA, yB]); first | done | rfl | (simp only [zX, zZ]; rfl)) ?_; (with_reducible refine (spec_l1Rd_pick.calls k g s0_0 t159 256 t160 t161 w0 _ ?side1 ?side2 A3.out).mono ?_); (case side1 => repeat (first | (with_reducible first | exact HI0.out | apply IsS61.alloc | apply IsS61.drewN | apply IsS61.drew | apply IsS61.set_1 | refine IsS61.far ?_ NB0_157.out _) | exact HI0.out)); (case side2 => repeat (first | (with_reducible first | exact HB.out | apply zG | apply zE | apply zF | refine zH ?_ (IsS61.ge HI0.out) | refine zH ?_ GE157.out) | exact HB.out)); rintro e w32 ⟨rfl, hi, hb, hk⟩; refine ⟨_, rfl, ?_⟩; have n0_ := zA (KeepBut.blk hk (g' := gb157) (o := .cells #[.int .i64 0, .int .i64 0] 26 (0, 0)) (by (with_reducible repeat (first | refine zB ?_ _ | refine zD ?_ | refine zC ?_ _)); exact BK157.out) NB157_0.out (by simp)); have n1_ := zA (KeepBut.trans (by repeat (first | (with_reducible first | exact HK.out | apply KeepBut.set_ | apply keep_drewN | apply keep_drew | apply keep_alloc | refine keep_far ?_ GW157.out _) | exact HK.out)) hk (.inl rfl)); have n2_ := zA (hb); have n3_ := zA (hi); clear BK157; clear HK; clear HB; clear HI0; have BK157 := n0_; have HK := n1_; have HB := n2_; have HI0 := n3_; clear n0_ n1_ n2_ n3_; (try clear hb); (try clear hb2); (try clear hk); (try clear hi)) | ((with_reducible refine zT (f := 45) rfl ?_); refine goesL_ (some 14) rfl rfl Try.func45 (by kernel_rfl) rfl #[.pointer (some ⟨g, 0, none⟩), .int .i64 256] rfl (by (try simp only [zW, yA, yB]); first | done | rfl | (simp only [zX, zZ]; rfl)) ?_; (with_reducible refine (spec_l1Rd_pick.calls k g s0_0 t161 256 t162 t163 w0 _ ?side1 ?side2 A4.out).mono ?_); (case side1 => repeat (first | (with_reducible first | exact HI0.out | apply IsS61.alloc | apply IsS61.drewN | apply IsS61.drew | apply IsS61.set_1 | refine IsS61.far ?_ NB0_157.out _) | exact HI0.out)); (case side2 => repeat (first | (with_reducible first | exact HB.out | apply zG | apply zE | apply zF | refine zH ?_ (IsS61.ge HI0.out) | refine zH ?_ GE157.out) | exact HB.out)); rintro e w33 ⟨rfl, hi, hb, hk⟩; refine ⟨_, rfl, ?_⟩; have n0_ := zA (KeepBut.blk hk (g' := gb157) (o := .cells #[.int .i64 0, .int .i64 0] 26 (0, 0)) (by (with_reducible repeat (first | refine zB ?_ _ | refine zD ?_ | refine zC ?_ _)); exact BK157.out) NB157_0.out (by simp)); have n1_ := zA (KeepBut.trans (by repeat (first | (with_reducible first | exact HK.out | apply KeepBut.set_ | apply keep_drewN | apply keep_drew | apply keep_alloc | refine keep_far ?_ GW157.out _) | exact HK.out)) hk (.inl rfl)); have n2_ := zA (hb); have n3_ := zA (hi); clear BK157; clear HK; clear HB; clear HI0; have BK157 := n0_; have HK := n1_; have HB := n2_; have HI0 := n3_; clear n0_ n1_ n2_ n3_; (try clear hb); (try clear hb2); (try clear hk); (try clear hi)) | ((with_reducible refine zT (f := 45) rfl ?_); refine goesL_ (some 17) rfl rfl Try.func45 (by kernel_rfl) rfl #[.pointer (some ⟨g, 0, none⟩), .int .i64 256] rfl (by (try simp only [zW, yA, yB]); first | done | rfl | (simp only [zX, zZ]; rfl)) ?_; (with_reducible refine (spec_l1Rd_pick.calls k g s0_0 t163 256 t164 t165 w0 _ ?side1 ?side2 A5.out).mono ?_); (case side1 => repeat (first | (with_reducible first | exact HI0.out | apply IsS61.alloc | apply IsS61.drewN | apply IsS61.drew | apply IsS61.set_1 | refine IsS61.far ?_ NB0_157.out _) | exact HI0.out)); (case side2 => repeat (first | (with_reducible first | exact HB.out | apply zG | apply zE | apply zF | refine zH ?_ (IsS61.ge HI0.out) | refine zH ?_ GE157.out) | exact HB.out)); rintro e w34 ⟨rfl, hi, hb, hk⟩; refine ⟨_, rfl, ?_⟩; have n0_ := zA (KeepBut.blk hk (g' := gb157) (o := .cells #[.int .i64 0, .int .i64 0] 26 (0, 0)) (by (with_reducible repeat (first | refine zB ?_ _ | refine zD ?_ | refine zC ?_ _)); exact BK157.out) NB157_0.out (by simp)); have n1_ := zA (KeepBut.trans (by repeat (first | (with_reducible first | exact HK.out | apply KeepBut.set_ | apply keep_drewN | apply keep_drew | apply keep_alloc | refine keep_far ?_ GW157.out _) | exact HK.out)) hk (.inl rfl)); have n2_ := zA (hb); have n3_ := zA (hi); clear BK157; clear HK; clear HB; clear HI0; have BK157 := n0_; have HK := n1_; have HB := n2_; have HI0 := n3_; clear n0_ n1_ n2_ n3_; (try clear hb); (try clear hb2); (try clear hk); (try clear hi)) | ((with_reducible refine zS (N := 19) rfl ?_); refine Kd.R_lit (Kd.int .i64) _ 3 ?hg (N := 19) ?hd (xs := ([t158, wrap64 ((wrap64 (t160 * 256)) + t162), 99999999, 0, wrap64 (-t164), 25, (-99999999)] : List Int)) (inner := [.int .i64 t158, .int .i64 (wrap64 ((wrap64 (t160 * 256)) + t162)), .int .i64 99999999, .int .i64 0, .int .i64 (wrap64 (-t164)), .int .i64 25, .int .i64 (-99999999)]) (ok := fun _ => True) (okp := fun _ => True) ?hr ?hp (fun _ hk => hk) trivial (Below.refl _ _) (Nat.le_refl _) (by simp) ?_; (case hd => rfl); (case hg => rfl); (case hr => first | (go_simp; done) | (go_simp; rfl)); (case hp => exact (Reps.one (show Kd.M (Kd.int .i64) _ _ _ t158 [.int .i64 t158] from rfl) (Reps.one (show Kd.M (Kd.int .i64) _ _ _ (wrap64 ((wrap64 (t160 * 256)) + t162)) [.int .i64 (wrap64 ((wrap64 (t160 * 256)) + t162))] from rfl) (Reps.one (show Kd.M (Kd.int .i64) _ _ _ 99999999 [.int .i64 99999999] from rfl) (Reps.one (show Kd.M (Kd.int .i64) _ _ _ 0 [.int .i64 0] from rfl) (Reps.one (show Kd.M (Kd.int .i64) _ _ _ (wrap64 (-t164)) [.int .i64 (wrap64 (-t164))] from rfl) (Reps.one (show Kd.M (Kd.int .i64) _ _ _ 25 [.int .i64 25] from rfl) (Reps.one (show Kd.M (Kd.int .i64) _ _ _ (-99999999) [.int .i64 (-99999999)] from rfl) (Reps.none _ _))))))))); intro v167 w35 ho36 hb hg_ hnew_; clear hg_ hnew_; (first | rw [← Ny166.out] at ho36 | (simp only [Int.reduceToNat] at ho36; rw [← Ny166.out] at ho36)); have n0_ := zA (Kd.R_lower ho36 (keep_size (w := w) (g := g) (row := none) (by repeat (first | (with_reducible first | exact HK.out | apply KeepBut.set_ | apply keep_drewN | apply keep_drew | apply keep_alloc | refine keep_far ?_ GW157.out _) | exact HK.out)))); have n1_ := zA (IsS61.below (by repeat (first | (with_reducible first | exact HI0.out | apply IsS61.alloc | apply IsS61.drewN | apply IsS61.drew | apply IsS61.set_1 | refine IsS61.far ?_ NB0_157.out _) | exact HI0.out)) hb); have n2_ := zA (zP (g := gb157) (o := .cells #[.int .i64 0, .int .i64 0] 26 (0, 0)) (by (with_reducible repeat (first | refine zB ?_ _ | refine zD ?_ | refine zC ?_ _)); exact BK157.out) hb); have n3_ := zA (KeepBut.trans (by repeat (first | (with_reducible first | exact HK.out | apply KeepBut.set_ | apply keep_drewN | apply keep_drew | apply keep_alloc | refine keep_far ?_ GW157.out _) | exact HK.out)) (KeepBut.of_below hb g none) (.inl rfl)); have n4_ := zA (zQ (by repeat (first | (with_reducible first | exact HB.out | apply zG | apply zE | apply zF | refine zH ?_ (IsS61.ge HI0.out) | refine zH ?_ GE157.out) | exact HB.out)) hb); clear HI0; clear BK157; clear HK; clear HB; have HO168 := n0_; have HI0 := n1_; have BK157 := n2_; have HK := n3_; have HB := n4_; clear n0_ n1_ n2_ n3_ n4_; clear hb ho36; obtain ⟨Ao37, co37, eo37⟩ := Kd.R_slice HO168.out; subst eo37) | ((with_reducible refine zT (f := 44) rfl ?_); refine goesL_ (some 20) rfl rfl Try.func44 (by kernel_rfl) rfl #[.pointer (some ⟨g, 0, none⟩), .slice Ao37 y166.length co37] rfl (by (try simp only [zW, yA, yB]); first | done | rfl | (simp only [zX, zZ]; rfl)) ?_; (with_reducible refine (spec_l1Rd_one.calls k g s0_0 t165 _ _ y166 t169 t170 w0 _ ?side1 ?side2 ?side3 ?side4 ?side5 A6.out).mono ?_); (case side1 => repeat (first | (with_reducible first | exact HI0.out | apply IsS61.alloc | apply IsS61.drewN | apply IsS61.drew | apply IsS61.set_1 | refine IsS61.far ?_ NB0_157.out _) | exact HI0.out)); (case side2 => repeat (first | (with_reducible first | exact HB.out | apply zG | apply zE | apply zF | refine zH ?_ (IsS61.ge HI0.out) | refine zH ?_ GE157.out) | exact HB.out)); (case side3 => repeat (first | exact (Kd.R_reads' HO168.out).2.2 | (with_reducible refine Kd.C_alloc ?_ _) | (with_reducible refine Kd.C_drewN ?_ _) | (with_reducible refine Kd.C_drew ?_))); (case side4 => exact (Kd.R_reads' HO168.out).2.1); (case side5 => exact far_slice (IsS61.own_ne HI0.out HO168.out (by decide))); rintro e w38 ⟨rfl, hi, hb, hk⟩; refine ⟨_, rfl, ?_⟩; have n0_ := zA (KeepBut.blk hk (g' := gb157) (o := .cells #[.int .i64 0, .int .i64 0] 26 (0, 0)) (by (with_reducible repeat (first | refine zB ?_ _ | refine zD ?_ | refine zC ?_ _)); exact BK157.out) NB157_0.out (by simp)); have n1_ := zA (Kd.R_mono (Kd.R_keep (IsS61.apart (show IsS61 w0 _ g s0_0 t165 from by repeat (first | (with_reducible first | exact HI0.out | apply IsS61.alloc | apply IsS61.drewN | apply IsS61.drew | apply IsS61.set_1 | refine IsS61.far ?_ NB0_157.out _) | exact HI0.out)) (by (with_reducible repeat (first | apply Kd.R_alloc | apply Kd.R_drewN | apply Kd.R_drew)); exact HO168.out) (by decide)) hk (fun _ h => h.2)) (fun _ h => h.1)); have n2_ := zA (KeepBut.trans (by repeat (first | (with_reducible first | exact HK.out | apply KeepBut.set_ | apply keep_drewN | apply keep_drew | apply keep_alloc | refine keep_far ?_ GW157.out _) | exact HK.out)) hk (.inl rfl)); have n3_ := zA (hb); have n4_ := zA (hi); clear BK157; clear HO168; clear HK; clear HB; clear HI0; have BK157 := n0_; have HO168 := n1_; have HK := n2_; have HB := n3_; have HI0 := n4_; clear n0_ n1_ n2_ n3_ n4_; (try clear hb); (try clear hb2); (try clear hk); (try clear hi)) | ((with_reducible refine zS (N := 22) rfl ?_); refine Kd.R_lit (Kd.int .i64) _ 3 ?hg (N := 22) ?hd (xs := ([0, 0, (-1), (-2), 2, (-8), 8] : List Int)) (inner := [.int .i64 0, .int .i64 0, .int .i64 (-1), .int .i64 (-2), .int .i64 2, .int .i64 (-8), .int .i64 8]) (ok := fun _ => True) (okp := fun _ => True) ?hr ?hp (fun _ hk => hk) trivial (Below.refl _ _) (Nat.le_refl _) (by simp) ?_; (case hd => rfl); (case hg => rfl); (case hr => first | (go_simp; done) | (go_simp; rfl)); (case hp => exact (Reps.one (show Kd.M (Kd.int .i64) _ _ _ 0 [.int .i64 0] from rfl) (Reps.one (show Kd.M (Kd.int .i64) _ _ _ 0 [.int .i64 0] from rfl) (Reps.one (show Kd.M (Kd.int .i64) _ _ _ (-1) [.int .i64 (-1)] from rfl) (Reps.one (show Kd.M (Kd.int .i64) _ _ _ (-2) [.int .i64 (-2)] from rfl) (Reps.one (show Kd.M (Kd.int .i64) _ _ _ 2 [.int .i64 2] from rfl) (Reps.one (show Kd.M (Kd.int .i64) _ _ _ (-8) [.int .i64 (-8)] from rfl) (Reps.one (show Kd.M (Kd.int .i64) _ _ _ 8 [.int .i64 8] from rfl) (Reps.none _ _))))))))); intro v172 w39 ho40 hb hg_ hnew_; clear hg_ hnew_; (first | rw [← Ny171.out] at ho40 | (simp only [Int.reduceToNat] at ho40; rw [← Ny171.out] at ho40)); have n0_ := zA (Kd.R_elder' (by (with_reducible repeat (first | apply Kd.R_alloc | apply Kd.R_drewN | apply Kd.R_drew)); exact HO168.out) (Kd.R_base ho40) hb); have n1_ := zA (Kd.R_lower (Kd.R_new' ho40 (Kd.R_lt (by (with_reducible repeat (first | apply Kd.R_alloc | apply Kd.R_drewN | apply Kd.R_drew)); exact HO168.out))) (keep_size (w := w) (g := g) (row := none) (by repeat (first | (with_reducible first | exact HK.out | apply KeepBut.set_ | apply keep_drewN | apply keep_drew | apply keep_alloc | refine keep_far ?_ GW157.out _) | exact HK.out)))); have n2_ := zA (IsS61.below (by repeat (first | (with_reducible first | exact HI0.out | apply IsS61.alloc | apply IsS61.drewN | apply IsS61.drew | apply IsS61.set_1 | refine IsS61.far ?_ NB0_157.out _) | exact HI0.out)) hb); have n3_ := zA (zP (g := gb157) (o := .cells #[.int .i64 0, .int .i64 0] 26 (0, 0)) (by (with_reducible repeat (first | refine zB ?_ _ | refine zD ?_ | refine zC ?_ _)); exact BK157.out) hb); have n4_ := zA (KeepBut.trans (by repeat (first | (with_reducible first | exact HK.out | apply KeepBut.set_ | apply keep_drewN | apply keep_drew | apply keep_alloc | refine keep_far ?_ GW157.out _) | exact HK.out)) (KeepBut.of_below hb g none) (.inl rfl)); have n5_ := zA (zQ (by repeat (first | (with_reducible first | exact HB.out | apply zG | apply zE | apply zF | refine zH ?_ (IsS61.ge HI0.out) | refine zH ?_ GE157.out) | exact HB.out)) hb); clear HO168; clear HI0; clear BK157; clear HK; clear HB; have HO168 := n0_; have HO173 := n1_; have HI0 := n2_; have BK157 := n3_; have HK := n4_; have HB := n5_; clear n0_ n1_ n2_ n3_ n4_ n5_; clear hb ho40; obtain ⟨Ao41, co41, eo41⟩ := Kd.R_slice HO173.out; subst eo41) | ((with_reducible refine zT (f := 44) rfl ?_); refine goesL_ (some 23) rfl rfl Try.func44 (by kernel_rfl) rfl #[.pointer (some ⟨g, 0, none⟩), .slice Ao41 y171.length co41] rfl (by (try simp only [zW, yA, yB]); first | done | rfl | (simp only [zX, zZ]; rfl)) ?_; (with_reducible refine (spec_l1Rd_one.calls k g s0_0 t170 _ _ y171 t174 t175 w0 _ ?side1 ?side2 ?side3 ?side4 ?side5 A7.out).mono ?_); (case side1 => repeat (first | (with_reducible first | exact HI0.out | apply IsS61.alloc | apply IsS61.drewN | apply IsS61.drew | apply IsS61.set_1 | refine IsS61.far ?_ NB0_157.out _) | exact HI0.out)); (case side2 => repeat (first | (with_reducible first | exact HB.out | apply zG | apply zE | apply zF | refine zH ?_ (IsS61.ge HI0.out) | refine zH ?_ GE157.out) | exact HB.out)); (case side3 => repeat (first | exact (Kd.R_reads' HO173.out).2.2 | (with_reducible refine Kd.C_alloc ?_ _) | (with_reducible refine Kd.C_drewN ?_ _) | (with_reducible refine Kd.C_drew ?_))); (case side4 => exact (Kd.R_reads' HO173.out).2.1); (case side5 => exact far_slice (IsS61.own_ne HI0.out HO173.out (by decide))); rintro e w42 ⟨rfl, hi, hb, hk⟩; refine ⟨_, rfl, ?_⟩; have n0_ := zA (KeepBut.blk hk (g' := gb157) (o := .cells #[.int .i64 0, .int .i64 0] 26 (0, 0)) (by (with_reducible repeat (first | refine zB ?_ _ | refine zD ?_ | refine zC ?_ _)); exact BK157.out) NB157_0.out (by simp)); have n1_ := zA (Kd.R_mono (Kd.R_keep (IsS61.apart (show IsS61 w0 _ g s0_0 t170 from by repeat (first | (with_reducible first | exact HI0.out | apply IsS61.alloc | apply IsS61.drewN | apply IsS61.drew | apply IsS61.set_1 | refine IsS61.far ?_ NB0_157.out _) | exact HI0.out)) (by (with_reducible repeat (first | apply Kd.R_alloc | apply Kd.R_drewN | apply Kd.R_drew)); exact HO168.out) (by decide)) hk (fun _ h => h.2)) (fun _ h => h.1)); have n2_ := zA (Kd.R_mono (Kd.R_keep (IsS61.apart (show IsS61 w0 _ g s0_0 t170 from by repeat (first | (with_reducible first | exact HI0.out | apply IsS61.alloc | apply IsS61.drewN | apply IsS61.drew | apply IsS61.set_1 | refine IsS61.far ?_ NB0_157.out _) | exact HI0.out)) (by (with_reducible repeat (first | apply Kd.R_alloc | apply Kd.R_drewN | apply Kd.R_drew)); exact HO173.out) (by decide)) hk (fun _ h => h.2)) (fun _ h => h.1)); have n3_ := zA (KeepBut.trans (by repeat (first | (with_reducible first | exact HK.out | apply KeepBut.set_ | apply keep_drewN | apply keep_drew | apply keep_alloc | refine keep_far ?_ GW157.out _) | exact HK.out)) hk (.inl rfl)); have n4_ := zA (hb); have n5_ := zA (hi); clear BK157; clear HO168; clear HO173; clear HK; clear HB; clear HI0; have BK157 := n0_; have HO168 := n1_; have HO173 := n2_; have HK := n3_; have HB := n4_; have HI0 := n5_; clear n0_ n1_ n2_ n3_ n4_ n5_; (try clear hb); (try clear hb2); (try clear hk); (try clear hi)) | ((with_reducible refine zT (f := 49) rfl ?_); refine goesL_ (some 27) rfl rfl Try.func49 (by kernel_rfl) rfl #[.int .i64 t169, .int .i64 t174] rfl (by (try simp only [zW, yA, yB]); first | done | rfl | (simp only [zX, zZ]; rfl)) ?_; (with_reducible refine (spec_l1New.calls k t169 t174 t176 t177 false _ A8.out).mono ?_); rintro e w43 ⟨rfl, hb⟩; refine ⟨_, rfl, ?_⟩; have n0_ := zA (Kd.R_below (by (with_reducible repeat (first | apply Kd.R_alloc | apply Kd.R_drewN | apply Kd.R_drew)); exact HO168.out) hb); have n1_ := zA (Kd.R_below (by (with_reducible repeat (first | apply Kd.R_alloc | apply Kd.R_drewN | apply Kd.R_drew)); exact HO173.out) hb); have n2_ := zA (IsS61.below (by repeat (first | (with_reducible first | exact HI0.out | apply IsS61.alloc | apply IsS61.drewN | apply IsS61.drew | apply IsS61.set_1 | refine IsS61.far ?_ NB0_157.out _) | exact HI0.out)) hb); have n3_ := zA (zP (g := gb157) (o := .cells #[.int .i64 0, .int .i64 0] 26 (0, 0)) (by (with_reducible repeat (first | refine zB ?_ _ | refine zD ?_ | refine zC ?_ _)); exact BK157.out) hb); have n4_ := zA (KeepBut.trans (by repeat (first | (with_reducible first | exact HK.out | apply KeepBut.set_ | apply keep_drewN | apply keep_drew | apply keep_alloc | refine keep_far ?_ GW157.out _) | exact HK.out)) (KeepBut.of_below hb g none) (.inl rfl)); have n5_ := zA (zQ (by repeat (first | (with_reducible first | exact HB.out | apply zG | apply zE | apply zF | refine zH ?_ (IsS61.ge HI0.out) | refine zH ?_ GE157.out) | exact HB.out)) hb); clear HO168; clear HO173; clear HI0; clear BK157; clear HK; clear HB; have HO168 := n0_; have HO173 := n1_; have HI0 := n2_; have BK157 := n3_; have HK := n4_; have HB := n5_; clear n0_ n1_ n2_ n3_ n4_ n5_; (try clear hb); (try clear hb2); (try clear hk); (try clear hi)) | ((with_reducible refine zS (N := 5) rfl ?_); refine zV ?hg (N := 5) ?hd (cs := #[.int .i64 0, .int .i64 0]) (t := 26) ?hr ?_; (case hd => rfl); (case hg => rfl); (case hr => first | (go_simp; done) | (go_simp; rfl)); intro gb179 hg w44 hbox hb; have n0_ := zA (Kd.R_below (by (with_reducible repeat (first | apply Kd.R_alloc | apply Kd.R_drewN | apply Kd.R_drew)); exact HO168.out) hb); have n1_ := zA (Kd.R_below (by (with_reducible repeat (first | apply Kd.R_alloc | apply Kd.R_drewN | apply Kd.R_drew)); exact HO173.out) hb); have n2_ := zA (IsS61.below (by repeat (first | (with_reducible first | exact HI0.out | apply IsS61.alloc | apply IsS61.drewN | apply IsS61.drew | apply IsS61.set_1 | refine IsS61.far ?_ NB0_157.out _) | exact HI0.out)) hb); have n3_ := zA (zP (g := gb157) (o := .cells #[.int .i64 0, .int .i64 0] 26 (0, 0)) (by (with_reducible repeat (first | refine zB ?_ _ | refine zD ?_ | refine zC ?_ _)); exact BK157.out) hb); have n4_ := zA (KeepBut.trans (by repeat (first | (with_reducible first | exact HK.out | apply KeepBut.set_ | apply keep_drewN | apply keep_drew | apply keep_alloc | refine keep_far ?_ GW157.out _) | exact HK.out)) (KeepBut.of_below hb g none) (.inl rfl)); have n5_ := zA (zQ (by repeat (first | (with_reducible first | exact HB.out | apply zG | apply zE | apply zF | refine zH ?_ (IsS61.ge HI0.out) | refine zH ?_ GE157.out) | exact HB.out)) hb); have n6_ := zA (hbox); have n7_ := zA ((by rw [hg]; exact (keep_size (w := w) (g := g) (row := none) (by repeat (first | (with_reducible first | exact HK.out | apply KeepBut.set_ | apply keep_drewN | apply keep_drew | apply keep_alloc | refine keep_far ?_ GW157.out _) | exact HK.out))) : w.heap.size ≤ gb179)); have n8_ := zA ((Nat.le_trans HW0.out (by rw [hg]; exact (keep_size (w := w) (g := g) (row := none) (by repeat (first | (with_reducible first | exact HK.out | apply KeepBut.set_ | apply keep_drewN | apply keep_drew | apply keep_alloc | refine keep_far ?_ GW157.out _) | exact HK.out))) : w.heap.size ≤ gb179) : w0.heap.size ≤ gb179)); have n9_ := zA ((by rw [hg]; exact Nat.ne_of_lt (blk_lt (g := gb157) (o := .cells #[.int .i64 0, .int .i64 0] 26 (0, 0)) (by (with_reducible repeat (first | refine zB ?_ _ | refine zD ?_ | refine zC ?_ _)); exact BK157.out)) : gb157 ≠ gb179)); have n10_ := zA ((by rw [hg]; exact Nat.ne_of_gt (blk_lt (g := gb157) (o := .cells #[.int .i64 0, .int .i64 0] 26 (0, 0)) (by (with_reducible repeat (first | refine zB ?_ _ | refine zD ?_ | refine zC ?_ _)); exact BK157.out)) : gb179 ≠ gb157)); have n11_ := zA ((by rw [hg]; exact Nat.ne_of_lt (IsS61.lt (show IsS61 w0 _ g s0_0 t175 from by repeat (first | (with_reducible first | exact HI0.out | apply IsS61.alloc | apply IsS61.drewN | apply IsS61.drew | apply IsS61.set_1 | refine IsS61.far ?_ NB0_157.out _) | exact HI0.out))) : g ≠ gb179)); have n12_ := zA ((by rw [hg]; exact Nat.ne_of_gt (IsS61.lt (show IsS61 w0 _ g s0_0 t175 from by repeat (first | (with_reducible first | exact HI0.out | apply IsS61.alloc | apply IsS61.drewN | apply IsS61.drew | apply IsS61.set_1 | refine IsS61.far ?_ NB0_157.out _) | exact HI0.out))) : gb179 ≠ g)); clear HO168; clear HO173; clear HI0; clear BK157; clear HK; clear HB; have HO168 := n0_; have HO173 := n1_; have HI0 := n2_; have BK157 := n3_; have HK := n4_; have HB := n5_; have BK179 := n6_; have GW179 := n7_; have GE179 := n8_; have NB157_179 := n9_; have NB179_157 := n10_; have NB0_179 := n11_; have NB179_0 := n12_; clear n0_ n1_ n2_ n3_ n4_ n5_ n6_ n7_ n8_ n9_ n10_ n11_ n12_; clear hb hbox hg; have hnb45 := NB179_157.out; have hnc45 := NB157_179.out; have hnb46 := NB179_0.out; have hnc46 := NB0_179.out; have hcz47_0 : w44.cell? ⟨gb179, 0, none⟩ = some (.int .i64 0) := (zJ BK179.out 0).trans rfl; have hcz47_1 : w44.cell? ⟨gb179, 1, none⟩ = some (.int .i64 0) := (zJ BK179.out 1).trans rfl; have hfz47_0 := zK BK179.out 0; have hfz47_1 := zK BK179.out 1; have hnb48 := NB157_0.out; have hnc48 := NB0_157.out; have hcz49_0 : w44.cell? ⟨gb157, 0, none⟩ = some (.int .i64 0) := (zJ BK157.out 0).trans rfl; have hcz49_1 : w44.cell? ⟨gb157, 1, none⟩ = some (.int .i64 0) := (zJ BK157.out 1).trans rfl; have hfz49_0 := zK BK157.out 0; have hfz49_1 := zK BK157.out 1))
  refine bodyPost_ret (results_cell_row rfl _ _ gb157 26 #[.int .i64 1, .int .i64 0] (0, 0) _ rfl (by (with_reducible repeat (first | refine zB ?_ _ | refine zD ?_ | refine zC ?_ _)); refine blk_put (cs := #[.int .i64 1, .int .i64 0]) ?_ 1 _ rfl; (with_reducible repeat (first | refine zB ?_ _ | refine zD ?_ | refine zC ?_ _)); refine blk_put (cs := #[.int .i64 0, .int .i64 0]) ?_ 0 _ rfl; (with_reducible repeat (first | refine zB ?_ _ | refine zD ?_ | refine zC ?_ _)); refine blk_far ?_ NB157_179.out _; (with_reducible repeat (first | refine zB ?_ _ | refine zD ?_ | refine zC ?_ _)); refine blk_far ?_ NB157_179.out _; (with_reducible repeat (first | refine zB ?_ _ | refine zD ?_ | refine zC ?_ _)); exact BK157.out) Try.underlying26 rfl (by kernel_rfl)) rfl ?_
  exact ⟨by first | rfl | (simp [errW_none, errW_some] <;> rfl) | (simp [*, errW_none, errW_some] <;> rfl), by repeat (first | (with_reducible first | exact HI0.out | apply IsS61.alloc | apply IsS61.drewN | apply IsS61.drew | apply IsS61.set_1 | refine IsS61.far ?_ NB0_157.out _ | refine IsS61.far ?_ NB0_179.out _) | exact HI0.out), by repeat (first | (with_reducible first | exact HB.out | apply zG | apply zE | apply zF | refine zH ?_ (IsS61.ge HI0.out) | refine zH ?_ GE157.out | refine zH ?_ GE179.out) | exact HB.out), by repeat (first | (with_reducible first | exact HK.out | apply KeepBut.set_ | apply keep_drewN | apply keep_drew | apply keep_alloc | refine keep_far ?_ GW157.out _ | refine keep_far ?_ GW179.out _) | exact HK.out)⟩

end Go.Proofs.Ytmoaolcioihjnaa.Q
