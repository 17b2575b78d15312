-- laid by a program of this session (wip/tools) out of the translation; Lean checks it
import Derived.Test.YtoajejdicfabmaaDoorProg
import Derived.Test.YtoajejdicfabmaaDoorBFnValueCmpX
import Derived.Test.YtoajejdicfabmaaDoorBFnValueCmpWFour
import Derived.Test.YtoajejdicfabmaaDoorBFnValueCmpWAt
import Derived.Test.YtoajejdicfabmaaDoorBFnValueCmpWEqStruct
import Derived.Test.YtoajejdicfabmaaDoorBFnValueCmpWRepsOne
import Derived.Test.YtoajejdicfabmaaDoorBFnValueCmpWInvWords
import Derived.Test.YtoajejdicfabmaaDoorBFnValueCmpWGuard
namespace Go.Proofs.YtoajejdicfabmaaDoor.Q
open Go.RowKit Go.Proofs.YtoajejdicfabmaaDoorW.PrintWords Go.Proofs.YtoajejdicfabmaaDoorW.PrintLast Go.Proofs.YtoajejdicfabmaaDoorW.PrintMore Go.Proofs.YtoajejdicfabmaaDoorX
attribute [local go_sem] max2_int min2_int max_two min_two max_three min_three max_four min_four   -- for this text's walks alone
set_option linter.unusedVariables false
set_option linter.unusedSimpArgs false



abbrev zA := @Aside0.mk
abbrev zB := @blk_drewN
abbrev zC := @blk_alloc
abbrev zD := @blk_drew
abbrev zE := @pw_below_drewN
abbrev zF := @below_drew1
abbrev zG := @below_alloc
abbrev zH := @below_set
abbrev zJ := @blk_cell
abbrev zK := @blk_frozen
abbrev zL := @List.setIfInBounds_toArray
abbrev zM := @List.set_cons_zero
abbrev zN := @List.set_cons_succ
abbrev zP := @blk_below
abbrev zQ := @below_step
abbrev zR := @below_size
abbrev zS := @World.block_lt_of_cell?
abbrev zT := @gate_dst
abbrev zV := @gate_callee
abbrev zW := @box_event
abbrev zX := @List.map_toArray
abbrev zZ := @List.length_drop
abbrev yA := @List.length_take
abbrev yB := @List.map_cons
abbrev yC := @List.map_nil
abbrev yD := @decide_eq_true
abbrev yE := @of_decide_eq_true
abbrev yF := @Option.some.inj
abbrev yG := @Below.refl
abbrev yH := @Nat.le_refl
theorem apBZ {p : Prop} (h : p := by (with_reducible repeat (first | apply zB | apply zD | apply zC)); refine blk_put (cs := #[.int .i64 0, .int .i64 0]) ?_ 1 _ rfl; (with_reducible repeat (first | apply zB | apply zD | apply zC)); refine blk_put (cs := #[.int .i64 0, .int .i64 0]) ?_ 0 _ rfl; (with_reducible repeat (first | apply zB | apply zD | apply zC)); exact lI.out) : p := h
theorem apCL {p : Prop} (h : p := by (with_reducible repeat (first | apply Kd.V_alloc | apply Kd.V_drewN | apply Kd.V_drew)); exact Kd.V_mono (vfV (g := aW) (vfV (g := aV) (Kd.V_mono (Kd.V_mono iG.out (fun k_ hk => (⟨hk, hk.1.1.2.2.1⟩ : _ ∧ k_ ≠ aV))) (fun k_ hk => (⟨hk, hk.1.1.1.2.2.2.1⟩ : _ ∧ k_ ≠ aW))) (fun _ hk => hk.1.2)) (fun _ hk => hk.2)) (fun _ hk => ⟨hk.1.1.1.1.1, ⟨hk.1.1.1.1.2.1, hk.1.1.2⟩⟩)) : p := h
theorem apP {p : Prop} (h : p := by first | exact HK.out.1 | exact (show Kept w _ (fun k_ => ag k_) from by repeat (first | (with_reducible first | exact HK.out | apply Kept.alloc | apply Kept.drewN | apply Kept.drew | refine Kept.setCell ?_ (.inr bS.out) _ | refine Kept.setCell ?_ (.inr bW.out) _ | refine Kept.setCell ?_ (.inr cd.out) _ | refine Kept.setCell ?_ (.inr cp.out) _) | exact HK.out)).1) : p := h
theorem app {p : Prop} (h : p := by (with_reducible repeat (first | apply Kd.V_alloc | apply Kd.V_drewN | apply Kd.V_drew)); exact (Kd.V_mono (Kd.V_mono (vfV (g := bg) (vfV (g := b8) (Kd.V_mono (Kd.V_mono aI.out (fun k_ hk => (⟨hk, hk.1.2⟩ : _ ∧ k_ ≠ b8))) (fun k_ hk => (⟨hk, hk.1.2⟩ : _ ∧ k_ ≠ bg))) (fun _ hk => hk.1.2)) (fun _ hk => hk.2)) (fun _ h_ => h_.1)) (fun _ h_ => h_.1))) : p := h
theorem apAR {p : Prop} (h : p := by (with_reducible repeat (first | apply Kd.V_alloc | apply Kd.V_drewN | apply Kd.V_drew)); exact (Kd.V_mono (Kd.V_mono (vfV (g := bg) (vfV (g := b8) (Kd.V_mono (Kd.V_mono bb.out (fun k_ hk => (⟨hk, hk.1.2⟩ : _ ∧ k_ ≠ b8))) (fun k_ hk => (⟨hk, hk.1.2⟩ : _ ∧ k_ ≠ bg))) (fun _ hk => hk.1.2)) (fun _ hk => hk.2)) (fun _ h_ => h_.1)) (fun _ h_ => h_.1))) : p := h
theorem apAT {p : Prop} (h : p := by (with_reducible repeat (first | apply Kd.V_alloc | apply Kd.V_drewN | apply Kd.V_drew)); exact (Kd.V_mono (Kd.V_mono (vfV (g := bg) (vfV (g := b8) (Kd.V_mono (Kd.V_mono dc.out (fun k_ hk => (⟨hk, hk.1.2⟩ : _ ∧ k_ ≠ b8))) (fun k_ hk => (⟨hk, hk.1.2⟩ : _ ∧ k_ ≠ bg))) (fun _ hk => hk.1.2)) (fun _ hk => hk.2)) (fun _ h_ => h_.1)) (fun _ h_ => h_.1))) : p := h
theorem apAV {p : Prop} (h : p := by (with_reducible repeat (first | apply Kd.V_alloc | apply Kd.V_drewN | apply Kd.V_drew)); exact (Kd.V_mono (Kd.V_mono (vfV (g := bg) (vfV (g := b8) (Kd.V_mono (Kd.V_mono et.out (fun k_ hk => (⟨hk, hk.1.2⟩ : _ ∧ k_ ≠ b8))) (fun k_ hk => (⟨hk, hk.1.2⟩ : _ ∧ k_ ≠ bg))) (fun _ hk => hk.1.2)) (fun _ hk => hk.2)) (fun _ h_ => h_.1)) (fun _ h_ => h_.1))) : p := h
theorem apCN {p : Prop} (h : p := by (with_reducible repeat (first | apply Kd.V_alloc | apply Kd.V_drewN | apply Kd.V_drew)); exact (Kd.V_mono (Kd.V_mono (vfV (g := cI) (vfV (g := cC) (Kd.V_mono (Kd.V_mono dt.out (fun k_ hk => (⟨hk, hk.1.2⟩ : _ ∧ k_ ≠ cC))) (fun k_ hk => (⟨hk, hk.1.2⟩ : _ ∧ k_ ≠ cI))) (fun _ hk => hk.1.2)) (fun _ hk => hk.2)) (fun _ h_ => h_.1)) (fun _ h_ => h_.1))) : p := h
theorem apCP {p : Prop} (h : p := by (with_reducible repeat (first | apply Kd.V_alloc | apply Kd.V_drewN | apply Kd.V_drew)); exact (Kd.V_mono (Kd.V_mono (vfV (g := cI) (vfV (g := cC) (Kd.V_mono (Kd.V_mono dv.out (fun k_ hk => (⟨hk, hk.1.2⟩ : _ ∧ k_ ≠ cC))) (fun k_ hk => (⟨hk, hk.1.2⟩ : _ ∧ k_ ≠ cI))) (fun _ hk => hk.1.2)) (fun _ hk => hk.2)) (fun _ h_ => h_.1)) (fun _ h_ => h_.1))) : p := h
theorem apAX {p : Prop} (h : p := by (with_reducible repeat (first | apply zB | apply zD | apply zC)); refine far6 ?_ eM.out; (with_reducible repeat (first | apply zB | apply zD | apply zC)); refine far6 ?_ el.out; (with_reducible repeat (first | apply zB | apply zD | apply zC)); exact bu.out) : p := h
theorem apAY {p : Prop} (h : p := by (with_reducible repeat (first | apply zB | apply zD | apply zC)); refine far6 ?_ f5.out; (with_reducible repeat (first | apply zB | apply zD | apply zC)); refine far6 ?_ eZ.out; (with_reducible repeat (first | apply zB | apply zD | apply zC)); exact bN.out) : p := h
theorem apCF {p : Prop} (h : p := by (with_reducible repeat (first | apply zB | apply zD | apply zC)); apply put6; (with_reducible repeat (first | apply zB | apply zD | apply zC)); refine blk_far ?_ dB.out _; (with_reducible repeat (first | apply zB | apply zD | apply zC)); exact dg.out) : p := h
theorem apCI {p : Prop} (h : p := by (with_reducible repeat (first | apply zB | apply zD | apply zC)); apply put6; (with_reducible repeat (first | apply zB | apply zD | apply zC)); refine blk_far ?_ dC.out _; (with_reducible repeat (first | apply zB | apply zD | apply zC)); exact bx.out) : p := h
theorem apAZ {p : Prop} (h : p := by (with_reducible repeat (first | apply zB | apply zD | apply zC)); refine far6 ?_ fw.out; (with_reducible repeat (first | apply zB | apply zD | apply zC)); apply put6; (with_reducible repeat (first | apply zB | apply zD | apply zC)); exact ca.out) : p := h
theorem apBA {p : Prop} (h : p := by (with_reducible repeat (first | apply zB | apply zD | apply zC)); apply put6; (with_reducible repeat (first | apply zB | apply zD | apply zC)); refine far6 ?_ gj.out; (with_reducible repeat (first | apply zB | apply zD | apply zC)); exact cJ.out) : p := h
theorem apCJ {p : Prop} (h : p := by (with_reducible repeat (first | apply zB | apply zD | apply zC)); refine far6 ?_ cj.out; (with_reducible repeat (first | apply zB | apply zD | apply zC)); apply put6; (with_reducible repeat (first | apply zB | apply zD | apply zC)); exact cz.out) : p := h
theorem apCK {p : Prop} (h : p := by (with_reducible repeat (first | apply zB | apply zD | apply zC)); apply put6; (with_reducible repeat (first | apply zB | apply zD | apply zC)); refine far6 ?_ cn.out; (with_reducible repeat (first | apply zB | apply zD | apply zC)); exact cF.out) : p := h
theorem apq {p : Prop} (h : p := by (with_reducible repeat (first | apply Kd.R_alloc | apply Kd.R_drewN | apply Kd.R_drew)); exact (Kd.R_mono (Kd.R_mono (vfR (g := bg) (vfR (g := b8) (Kd.R_types (Kd.R_types aD.out ca.out (by decide)) cJ.out (by decide)) (fun _ hk => hk.1.2)) (fun _ hk => hk.2)) (fun _ h_ => h_.1)) (fun _ h_ => h_.1))) : p := h
theorem apAS {p : Prop} (h : p := by (with_reducible repeat (first | apply Kd.R_alloc | apply Kd.R_drewN | apply Kd.R_drew)); exact (Kd.R_mono (Kd.R_mono (vfR (g := bg) (vfR (g := b8) (Kd.R_types (Kd.R_types aX.out ca.out (by decide)) cJ.out (by decide)) (fun _ hk => hk.1.2)) (fun _ hk => hk.2)) (fun _ h_ => h_.1)) (fun _ h_ => h_.1))) : p := h
theorem apAU {p : Prop} (h : p := by (with_reducible repeat (first | apply Kd.R_alloc | apply Kd.R_drewN | apply Kd.R_drew)); exact (Kd.R_mono (Kd.R_mono (vfR (g := bg) (vfR (g := b8) (Kd.R_types (Kd.R_types dd.out ca.out (by decide)) cJ.out (by decide)) (fun _ hk => hk.1.2)) (fun _ hk => hk.2)) (fun _ h_ => h_.1)) (fun _ h_ => h_.1))) : p := h
theorem apAW {p : Prop} (h : p := by (with_reducible repeat (first | apply Kd.R_alloc | apply Kd.R_drewN | apply Kd.R_drew)); exact (Kd.R_mono (Kd.R_mono (vfR (g := bg) (vfR (g := b8) (Kd.R_types (Kd.R_types eu.out ca.out (by decide)) cJ.out (by decide)) (fun _ hk => hk.1.2)) (fun _ hk => hk.2)) (fun _ h_ => h_.1)) (fun _ h_ => h_.1))) : p := h
theorem apCO {p : Prop} (h : p := by (with_reducible repeat (first | apply Kd.R_alloc | apply Kd.R_drewN | apply Kd.R_drew)); exact (Kd.R_mono (Kd.R_mono (vfR (g := cI) (vfR (g := cC) (Kd.R_types (Kd.R_types du.out bu.out (by decide)) bN.out (by decide)) (fun _ hk => hk.1.2)) (fun _ hk => hk.2)) (fun _ h_ => h_.1)) (fun _ h_ => h_.1))) : p := h
theorem apCQ {p : Prop} (h : p := by (with_reducible repeat (first | apply Kd.R_alloc | apply Kd.R_drewN | apply Kd.R_drew)); exact (Kd.R_mono (Kd.R_mono (vfR (g := cI) (vfR (g := cC) (Kd.R_types (Kd.R_types dw.out bu.out (by decide)) bN.out (by decide)) (fun _ hk => hk.1.2)) (fun _ hk => hk.2)) (fun _ h_ => h_.1)) (fun _ h_ => h_.1))) : p := h
theorem apH {p : Prop} (h : p := by repeat (first | (with_reducible first | exact HK.out | apply Kept.alloc | apply Kept.drewN | apply Kept.drew | refine Kept.setCell ?_ (.inr bS.out) _ | refine Kept.setCell ?_ (.inr bW.out) _ | refine Kept.setCell ?_ (.inr cd.out) _ | refine Kept.setCell ?_ (.inr cp.out) _) | exact HK.out)) : p := h
theorem apCM {p : Prop} (h : p := by (with_reducible repeat (first | apply Kd.R_alloc | apply Kd.R_drewN | apply Kd.R_drew)); exact Kd.R_mono (vfR (g := aW) (vfR (g := aV) (Kd.R_types (Kd.R_types g8.out cz.out (by decide)) cF.out (by decide)) (fun _ hk => hk.1.2)) (fun _ hk => hk.2)) (fun _ hk => ⟨hk.1.1.1.1, hk.1.1.2⟩)) : p := h
theorem apY {p : Prop} (h : p := by repeat (first | (with_reducible first | exact HB.out | apply zG | apply zE | apply zF | refine zH ?_ (IsS66.ge HI0.out) | refine zH ?_ g6.out | refine zH ?_ gc.out | refine zH ?_ gs.out) | exact HB.out)) : p := h
theorem apk {p : Prop} (h : p := by repeat (first | (with_reducible first | exact HB.out | apply zG | apply zE | apply zF | refine zH ?_ (IsS66.ge cA.out) | refine zH ?_ fg.out | refine zH ?_ gl.out | refine zH ?_ ma.out) | exact HB.out)) : p := h
theorem apAG {p : Prop} (h : p := by first | (rw [add_block]; exact Kd.own_blk (IsS66.own_neN HI0.out bh.out (by decide))) | (show (Addr.add _ _).block ≠ _; rw [add_block]; exact Kd.own_blk (IsS66.own_neN HI0.out bh.out (by decide))) | exact Kd.own_blk (IsS66.own_neN HI0.out bh.out (by decide))) : p := h
theorem apJ {p : Prop} (h : p := by repeat (first | (with_reducible first | exact HB.out | apply zG | apply zE | apply zF | refine zH ?_ cP.out | refine zH ?_ cT.out | refine zH ?_ d1.out | refine zH ?_ dA.out) | exact HB.out)) : p := h
theorem apZ {p : Prop} (h : p := by repeat (first | (with_reducible first | exact HB.out | apply zG | apply zE | apply zF | refine zH ?_ cU.out | refine zH ?_ dk.out | refine zH ?_ g9.out | refine zH ?_ j6.out) | exact HB.out)) : p := h
theorem apy {p : Prop} (h : p := by repeat (first | (with_reducible first | exact HK.out | apply Kept.alloc | apply Kept.drewN | apply Kept.drew | refine Kept.setCell ?_ (.inr bS.out) _ | refine Kept.setCell ?_ (.inr bW.out) _ | refine Kept.setCell ?_ (.inr cd.out) _) | exact HK.out)) : p := h
theorem apO {p : Prop} (h : p := by repeat (first | (with_reducible first | exact HI0.out | apply IsS66.alloc | apply IsS66.drewN | apply IsS66.drew | apply IsS66.set_1 | refine IsS66.far ?_ bU.out _ | refine IsS66.far ?_ bL.out _ | refine IsS66.far ?_ bR.out _) | exact HI0.out)) : p := h
theorem apv {p : Prop} (h : p := by repeat (first | (with_reducible first | exact cA.out | apply IsS66.alloc | apply IsS66.drewN | apply IsS66.drew | apply IsS66.set_1 | refine IsS66.far ?_ eJ.out _ | refine IsS66.far ?_ eK.out _ | refine IsS66.far ?_ fu.out _) | exact cA.out)) : p := h
theorem apCH {p : Prop} (h : p := by (with_reducible repeat (first | apply Kd.N_alloc | apply Kd.N_drewN | apply Kd.N_drew)); exact Kd.N_mono (vfN (g := be) (Kd.N_mono bh.out (fun k_ hk => (⟨hk, hk.2.2.2.1⟩ : _ ∧ k_ ≠ be))) (fun _ hk => hk.2)) (fun _ hk => ⟨hk.1.1, hk.1.2.1⟩)) : p := h
theorem apI {p : Prop} (h : p := by repeat (first | (with_reducible first | exact HK.out | apply KeepBut.set_ | apply keep_drewN | apply keep_drew | apply keep_alloc | refine keep_far ?_ ct.out _ | refine keep_far ?_ cD.out _ | refine keep_far ?_ d6.out _) | exact HK.out)) : p := h
theorem apW {p : Prop} (h : p := by repeat (first | (with_reducible first | exact HB.out | apply zG | apply zE | apply zF | refine zH ?_ (IsS66.ge HI0.out) | refine zH ?_ g2.out | refine zH ?_ iC.out) | exact HB.out)) : p := h
theorem api {p : Prop} (h : p := by repeat (first | (with_reducible first | exact HB.out | apply zG | apply zE | apply zF | refine zH ?_ (IsS66.ge HI0.out) | refine zH ?_ kr.out | refine zH ?_ m5.out) | exact HB.out)) : p := h
theorem apCB {p : Prop} (h : p := by repeat (first | (with_reducible first | exact HB.out | apply zG | apply zE | apply zF | refine zH ?_ (IsS66.ge HI0.out) | refine zH ?_ mF.out | refine zH ?_ S5.out) | exact HB.out)) : p := h
theorem apCG {p : Prop} (h : p := by repeat (first | (with_reducible first | exact HB.out | apply zG | apply zE | apply zF | refine zH ?_ (IsS66.ge HI0.out) | refine zH ?_ g6.out | refine zH ?_ gc.out) | exact HB.out)) : p := h
theorem apu {p : Prop} (h : p := by repeat (first | (with_reducible first | exact HB.out | apply zG | apply zE | apply zF | refine zH ?_ (IsS66.ge cA.out) | refine zH ?_ fg.out | refine zH ?_ gl.out) | exact HB.out)) : p := h
theorem apb {p : Prop} (h : p := by repeat (first | (with_reducible first | exact HB.out | apply zG | apply zE | apply zF | refine zH ?_ eb.out | refine zH ?_ ez.out | refine zH ?_ gb.out) | exact HB.out)) : p := h
theorem apx {p : Prop} (h : p := by repeat (first | (with_reducible first | exact HB.out | apply zG | apply zE | apply zF | refine zH ?_ cP.out | refine zH ?_ cT.out | refine zH ?_ d1.out) | exact HB.out)) : p := h
theorem apBX {p : Prop} (h : p := by repeat (first | (with_reducible first | exact HB.out | apply zG | apply zE | apply zF | refine zH ?_ cU.out | refine zH ?_ dk.out | refine zH ?_ g9.out) | exact HB.out)) : p := h
theorem apBM {p : Prop} (h : p := by rw [← hq_]; exact (by repeat (first | (with_reducible first | exact HB.out | apply zG | apply zE | apply zF | refine zH ?_ eO.out | refine zH ?_ kk.out) | exact HB.out))) : p := h
theorem apS {p : Prop} (h : p := by repeat (first | (with_reducible first | exact HI0.out | apply IsS66.alloc | apply IsS66.drewN | apply IsS66.drew | apply IsS66.set_1 | refine IsS66.far ?_ ce.out _ | refine IsS66.far ?_ cv.out _) | exact HI0.out)) : p := h
theorem apa {p : Prop} (h : p := by repeat (first | (with_reducible first | exact HI0.out | apply IsS66.alloc | apply IsS66.drewN | apply IsS66.drew | apply IsS66.set_1 | refine IsS66.far ?_ cQ.out _ | refine IsS66.far ?_ db.out _) | exact HI0.out)) : p := h
theorem apBF {p : Prop} (h : p := by repeat (first | (with_reducible first | exact HI0.out | apply IsS66.alloc | apply IsS66.drewN | apply IsS66.drew | apply IsS66.set_1 | refine IsS66.far ?_ bU.out _ | refine IsS66.far ?_ bL.out _) | exact HI0.out)) : p := h
theorem apCA {p : Prop} (h : p := by repeat (first | (with_reducible first | exact HI0.out | apply IsS66.alloc | apply IsS66.drewN | apply IsS66.drew | apply IsS66.set_1 | refine IsS66.far ?_ ed.out _ | refine IsS66.far ?_ q3.out _) | exact HI0.out)) : p := h
theorem apBI {p : Prop} (h : p := by repeat (first | (with_reducible first | exact cA.out | apply IsS66.alloc | apply IsS66.drewN | apply IsS66.drew | apply IsS66.set_1 | refine IsS66.far ?_ eJ.out _ | refine IsS66.far ?_ eK.out _) | exact cA.out)) : p := h
theorem apAO {p : Prop} (h : p := by (with_reducible repeat (first | apply zB | apply zD | apply zC)); refine far6 ?_ cu.out; (with_reducible repeat (first | apply zB | apply zD | apply zC)); exact bX.out) : p := h
theorem apCD {p : Prop} (h : p := by repeat (first | (with_reducible first | exact HK.out | apply Kept.alloc | apply Kept.drewN | apply Kept.drew | refine Kept.setCell ?_ (.inr bS.out) _ | refine Kept.setCell ?_ (.inr bW.out) _) | exact HK.out)) : p := h
theorem apCE {p : Prop} (h : p := by (with_reducible repeat (first | apply zB | apply zD | apply zC)); refine far6 ?_ dB.out; (with_reducible repeat (first | apply zB | apply zD | apply zC)); exact dg.out) : p := h
theorem apM {p : Prop} (h : p := by repeat (first | (with_reducible first | exact HK.out | apply KeepBut.set_ | apply keep_drewN | apply keep_drew | apply keep_alloc | refine keep_far ?_ dr.out _ | refine keep_far ?_ dZ.out _) | exact HK.out)) : p := h
theorem apX {p : Prop} (h : p := by repeat (first | (with_reducible first | exact HK.out | apply KeepBut.set_ | apply keep_drewN | apply keep_drew | apply keep_alloc | refine keep_far ?_ eS.out _ | refine keep_far ?_ iE.out _) | exact HK.out)) : p := h
theorem apo {p : Prop} (h : p := by repeat (first | (with_reducible first | exact HK.out | apply KeepBut.set_ | apply keep_drewN | apply keep_drew | apply keep_alloc | refine keep_far ?_ ct.out _ | refine keep_far ?_ cD.out _) | exact HK.out)) : p := h
theorem apCC {p : Prop} (h : p := by repeat (first | (with_reducible first | exact HK.out | apply KeepBut.set_ | apply keep_drewN | apply keep_drew | apply keep_alloc | refine keep_far ?_ kn.out _ | refine keep_far ?_ S4.out _) | exact HK.out)) : p := h
theorem apBH {p : Prop} (h : p := by have h_ : (aj : Int) < ((aG.length : Int) : Int) := yE (by first | (with_reducible assumption) | assumption); first | exact h_ | (have e_ := (Kd.N_reads' bh.out).1; omega) | simpa using h_) : p := h
theorem apn {p : Prop} (h : p := by repeat (first | (with_reducible first | exact HB.out | apply zG | apply zE | apply zF | refine zH ?_ (IsS66.ge HI0.out) | refine zH ?_ mF.out) | exact HB.out)) : p := h
theorem apAN {p : Prop} (h : p := by repeat (first | (with_reducible first | exact HB.out | apply zG | apply zE | apply zF | refine zH ?_ (IsS66.ge HI0.out) | refine zH ?_ g2.out) | exact HB.out)) : p := h
theorem apBO {p : Prop} (h : p := by repeat (first | (with_reducible first | exact HB.out | apply zG | apply zE | apply zF | refine zH ?_ (IsS66.ge HI0.out) | refine zH ?_ kr.out) | exact HB.out)) : p := h
theorem apAP {p : Prop} (h : p := by (with_reducible repeat (first | apply zB | apply zD | apply zC)); apply put6; (with_reducible repeat (first | apply zB | apply zD | apply zC)); exact bA.out) : p := h
theorem apBG {p : Prop} (h : p := by (with_reducible repeat (first | apply zB | apply zD | apply zC)); apply put6; (with_reducible repeat (first | apply zB | apply zD | apply zC)); exact bx.out) : p := h
theorem apK {p : Prop} (h : p := by repeat (first | (with_reducible first | exact HB.out | apply zG | apply zE | apply zF | refine zH ?_ dz.out | refine zH ?_ dy.out) | exact HB.out)) : p := h
theorem apV {p : Prop} (h : p := by repeat (first | (with_reducible first | exact HB.out | apply zG | apply zE | apply zF | refine zH ?_ cU.out | refine zH ?_ dk.out) | exact HB.out)) : p := h
theorem apc {p : Prop} (h : p := by repeat (first | (with_reducible first | exact HB.out | apply zG | apply zE | apply zF | refine zH ?_ iw.out | refine zH ?_ kj.out) | exact HB.out)) : p := h
theorem apd {p : Prop} (h : p := by repeat (first | (with_reducible first | exact HB.out | apply zG | apply zE | apply zF | refine zH ?_ f8.out | refine zH ?_ k9.out) | exact HB.out)) : p := h
theorem aph {p : Prop} (h : p := by repeat (first | (with_reducible first | exact HB.out | apply zG | apply zE | apply zF | refine zH ?_ eO.out | refine zH ?_ kk.out) | exact HB.out)) : p := h
theorem apj {p : Prop} (h : p := by repeat (first | (with_reducible first | exact HB.out | apply zG | apply zE | apply zF | refine zH ?_ eb.out | refine zH ?_ ez.out) | exact HB.out)) : p := h
theorem apt {p : Prop} (h : p := by repeat (first | (with_reducible first | exact HB.out | apply zG | apply zE | apply zF | refine zH ?_ mI.out | refine zH ?_ rk.out) | exact HB.out)) : p := h
theorem apBN {p : Prop} (h : p := by repeat (first | (with_reducible first | exact HB.out | apply zG | apply zE | apply zF | refine zH ?_ q2.out | refine zH ?_ LL.out) | exact HB.out)) : p := h
theorem apBT {p : Prop} (h : p := by repeat (first | (with_reducible first | exact HB.out | apply zG | apply zE | apply zF | refine zH ?_ oM.out | refine zH ?_ J4.out) | exact HB.out)) : p := h
theorem apBV {p : Prop} (h : p := by repeat (first | (with_reducible first | exact HB.out | apply zG | apply zE | apply zF | refine zH ?_ oN.out | refine zH ?_ Jv.out) | exact HB.out)) : p := h
theorem apBY {p : Prop} (h : p := by repeat (first | (with_reducible first | exact HB.out | apply zG | apply zE | apply zF | refine zH ?_ cU.out | refine zH ?_ g9.out) | exact HB.out)) : p := h
theorem ape {p : Prop} (h : p := by repeat (first | (with_reducible first | exact HI0.out | apply IsS66.alloc | apply IsS66.drewN | apply IsS66.drew | apply IsS66.set_1 | refine IsS66.far ?_ ed.out _) | exact HI0.out)) : p := h
theorem apAC {p : Prop} (h : p := by repeat (first | (with_reducible first | exact HI0.out | apply IsS66.alloc | apply IsS66.drewN | apply IsS66.drew | apply IsS66.set_1 | refine IsS66.far ?_ ce.out _) | exact HI0.out)) : p := h
theorem apAQ {p : Prop} (h : p := by repeat (first | (with_reducible first | exact HI0.out | apply IsS66.alloc | apply IsS66.drewN | apply IsS66.drew | apply IsS66.set_1 | refine IsS66.far ?_ cQ.out _) | exact HI0.out)) : p := h
theorem apf {p : Prop} (h : p := by repeat (first | (with_reducible first | exact HK.out | apply KeepBut.set_ | apply keep_drewN | apply keep_drew | apply keep_alloc | refine keep_far ?_ kn.out _) | exact HK.out)) : p := h
theorem apr {p : Prop} (h : p := by repeat (first | (with_reducible first | exact HK.out | apply KeepBut.set_ | apply keep_drewN | apply keep_drew | apply keep_alloc | refine keep_far ?_ eS.out _) | exact HK.out)) : p := h
theorem apz {p : Prop} (h : p := by repeat (first | (with_reducible first | exact HK.out | apply KeepBut.set_ | apply keep_drewN | apply keep_drew | apply keep_alloc | refine keep_far ?_ dr.out _) | exact HK.out)) : p := h
theorem apBQ {p : Prop} (h : p := by repeat (first | (with_reducible first | exact HK.out | apply KeepBut.set_ | apply keep_drewN | apply keep_drew | apply keep_alloc | refine keep_far ?_ ct.out _) | exact HK.out)) : p := h
theorem apU {p : Prop} (h : p := by repeat (first | (with_reducible first | exact HB.out | apply zG | apply zE | apply zF | refine zH ?_ (IsS66.ge HI0.out)) | exact HB.out)) : p := h
theorem apBS {p : Prop} (h : p := by first | rfl | (simp [errW_none, errW_some] <;> rfl) | (simp only [← wT]; first | rfl | (simp [errW_none, errW_some] <;> rfl)) | (simp [*, errW_none, errW_some] <;> rfl)) : p := h
theorem apT {p : Prop} (h : p := by repeat (first | (with_reducible first | exact HB.out | apply zG | apply zE | apply zF | refine zH ?_ fy.out) | exact HB.out)) : p := h
theorem apg {p : Prop} (h : p := by repeat (first | (with_reducible first | exact HB.out | apply zG | apply zE | apply zF | refine zH ?_ eO.out) | exact HB.out)) : p := h
theorem aps {p : Prop} (h : p := by repeat (first | (with_reducible first | exact HB.out | apply zG | apply zE | apply zF | refine zH ?_ f8.out) | exact HB.out)) : p := h
theorem apw {p : Prop} (h : p := by repeat (first | (with_reducible first | exact HB.out | apply zG | apply zE | apply zF | refine zH ?_ uj.out) | exact HB.out)) : p := h
theorem apAA {p : Prop} (h : p := by repeat (first | (with_reducible first | exact HB.out | apply zG | apply zE | apply zF | refine zH ?_ mX.out) | exact HB.out)) : p := h
theorem apAB {p : Prop} (h : p := by repeat (first | (with_reducible first | exact HB.out | apply zG | apply zE | apply zF | refine zH ?_ q2.out) | exact HB.out)) : p := h
theorem apAK {p : Prop} (h : p := by repeat (first | (with_reducible first | exact HB.out | apply zG | apply zE | apply zF | refine zH ?_ oM.out) | exact HB.out)) : p := h
theorem apAL {p : Prop} (h : p := by repeat (first | (with_reducible first | exact HB.out | apply zG | apply zE | apply zF | refine zH ?_ oN.out) | exact HB.out)) : p := h
theorem apAM {p : Prop} (h : p := by repeat (first | (with_reducible first | exact HB.out | apply zG | apply zE | apply zF | refine zH ?_ BI.out) | exact HB.out)) : p := h
theorem apBB {p : Prop} (h : p := by repeat (first | (with_reducible first | exact HB.out | apply zG | apply zE | apply zF | refine zH ?_ Dn.out) | exact HB.out)) : p := h
theorem apBC {p : Prop} (h : p := by repeat (first | (with_reducible first | exact HB.out | apply zG | apply zE | apply zF | refine zH ?_ Do.out) | exact HB.out)) : p := h
theorem apBD {p : Prop} (h : p := by repeat (first | (with_reducible first | exact HB.out | apply zG | apply zE | apply zF | refine zH ?_ dy.out) | exact HB.out)) : p := h
theorem apBJ {p : Prop} (h : p := by repeat (first | (with_reducible first | exact HB.out | apply zG | apply zE | apply zF | refine zH ?_ BM.out) | exact HB.out)) : p := h
theorem apBK {p : Prop} (h : p := by repeat (first | (with_reducible first | exact HB.out | apply zG | apply zE | apply zF | refine zH ?_ dz.out) | exact HB.out)) : p := h
theorem apBL {p : Prop} (h : p := by repeat (first | (with_reducible first | exact HB.out | apply zG | apply zE | apply zF | refine zH ?_ iw.out) | exact HB.out)) : p := h
theorem apBP {p : Prop} (h : p := by repeat (first | (with_reducible first | exact HB.out | apply zG | apply zE | apply zF | refine zH ?_ eb.out) | exact HB.out)) : p := h
theorem apBR {p : Prop} (h : p := by repeat (first | (with_reducible first | exact HB.out | apply zG | apply zE | apply zF | refine zH ?_ fg.out) | exact HB.out)) : p := h
theorem apBU {p : Prop} (h : p := by repeat (first | (with_reducible first | exact HB.out | apply zG | apply zE | apply zF | refine zH ?_ mI.out) | exact HB.out)) : p := h
theorem apBW {p : Prop} (h : p := by repeat (first | (with_reducible first | exact HB.out | apply zG | apply zE | apply zF | refine zH ?_ cU.out) | exact HB.out)) : p := h
theorem apQ {p : Prop} (h : p := by repeat (first | (with_reducible first | exact HI0.out | apply IsS66.alloc | apply IsS66.drewN | apply IsS66.drew | apply IsS66.set_1) | exact HI0.out)) : p := h
theorem apN {p : Prop} (h : p := by repeat (first | (with_reducible first | exact HK.out | apply KeepBut.set_ | apply keep_drewN | apply keep_drew | apply keep_alloc) | exact HK.out)) : p := h
theorem apm {p : Prop} (h : p := by first | exact Kd.R_nil _ _ _ _ _ | exact Kd.N_nil _ _ _ _ _ | exact Kd.V_nil _ _ _ _ _ | exact Kd.Q_nil _ _ _ _ _ | exact Kd.S_nil _ _ _ _ _) : p := h
theorem apC {p : Prop} (h : p := by (try simp only [zX, yB, yC]); first | done | rfl | (simp only [zZ, yA]; rfl)) : p := h
theorem apBE {p : Prop} (h : p := by repeat (first | (with_reducible first | exact HBW.out | apply zG | apply zE | apply zF) | exact HBW.out)) : p := h
theorem apA {p : Prop} (h : p := by repeat (first | (with_reducible first | exact HB.out | apply zG | apply zE | apply zF) | exact HB.out)) : p := h
theorem apl {p : Prop} (h : p := by simp only [putAll, Act.put, zL, zM, zN]) : p := h
theorem apE {p : Prop} (h : p := by first | rfl | (simp [errW_none, errW_some] <;> rfl) | (simp [*, errW_none, errW_some] <;> rfl)) : p := h
theorem apAF {p : Prop} (h : p := by have h_ := Kd.N_away ms.out (fun _ hk => hk.2.2.2.2.1); intro e_; exact h_ (by rw [e_]; rfl)) : p := h
theorem apAJ {p : Prop} (h : p := by have h_ := Kd.N_away iF.out (fun _ hk => hk.2.2.2.2.1); intro e_; exact h_ (by rw [e_]; rfl)) : p := h
theorem apAE {p : Prop} (h : p := by have h_ := Kd.N_away ms.out (fun _ hk => hk.2.2.2.1); intro e_; exact h_ (by rw [e_]; rfl)) : p := h
theorem apAI {p : Prop} (h : p := by have h_ := Kd.N_away iF.out (fun _ hk => hk.2.2.2.1); intro e_; exact h_ (by rw [e_]; rfl)) : p := h
theorem apAD {p : Prop} (h : p := by have h_ := Kd.N_away ms.out (fun _ hk => hk.2.2.1); intro e_; exact h_ (by rw [e_]; rfl)) : p := h
theorem apAH {p : Prop} (h : p := by have h_ := Kd.N_away iF.out (fun _ hk => hk.2.2.1); intro e_; exact h_ (by rw [e_]; rfl)) : p := h
theorem apB {p : Prop} (h : p := by first | rfl | (simp; done) | (simp [*]; done) | (simp [isEmpty_bne]; done)) : p := h
theorem apG {p : Prop} (h : p := by repeat (first | exact Drawn0.refl _ | apply Drawn0.step)) : p := h
theorem apD {p : Prop} (h : p := by first | (with_reducible assumption) | assumption) : p := h
theorem apF {p : Prop} (h : p := by first | (go_simp; done) | (go_simp; rfl)) : p := h
theorem apL {p : Prop} (h : p := by first | omega | exact yH _) : p := h
theorem apR {p : Prop} (h : p := by have := HK1.out; omega) : p := h
theorem vwN {a p : Prop} (x : a) (h : a → p := by (intro x_; (with_reducible repeat (first | apply Kd.N_alloc | apply Kd.N_drewN | apply Kd.N_drew)); exact x_)) : p := h x
theorem vwR {a p : Prop} (x : a) (h : a → p := by (intro x_; (with_reducible repeat (first | apply Kd.R_alloc | apply Kd.R_drewN | apply Kd.R_drew)); exact x_)) : p := h x
theorem vwV {a p : Prop} (x : a) (h : a → p := by (intro x_; (with_reducible repeat (first | apply Kd.V_alloc | apply Kd.V_drewN | apply Kd.V_drew)); exact x_)) : p := h x
theorem vc {a p : Prop} (x : a) (h : a → p := by (intro x_; repeat (first | exact x_ | (with_reducible refine Kd.C_alloc ?_ _) | (with_reducible refine Kd.C_drewN ?_ _) | (with_reducible refine Kd.C_drew ?_)))) : p := h x
abbrev zn (v : Value) (k_ : Nat) : Prop := some k_ ≠ v.ownBlock
theorem vmV {α : Type} {d : Kd α} {e base : Nat} {ok : Nat → Prop} {w : World} {v : Value} {xs : List α} {p : Prop} (x : Kd.V d e w base ok v xs) (h : Kd.V d e w base ok v xs → p := by (intro x_; (with_reducible repeat (first | apply Kd.V_alloc | apply Kd.V_drewN | apply Kd.V_drew)); refine Kd.V_mono x_ ?_; intro k_; (try simp only [and_imp]); intros; and_intros <;> assumption)) : p := h x
theorem vfV {α : Type} {d : Kd α} {e base : Nat} {ok : Nat → Prop} {w : World} {v : Value} {xs : List α} {g : Nat} {c0 c1 c2 c3 c4 c5 : Value} (h : Kd.V d e w base ok v xs) (hne : ∀ k_, ok k_ → k_ ≠ g) : Kd.V d e ((((((w.setCell ⟨g, 0, none⟩ c0).setCell ⟨g, 1, none⟩ c1).setCell ⟨g, 2, none⟩ c2).setCell ⟨g, 3, none⟩ c3).setCell ⟨g, 4, none⟩ c4).setCell ⟨g, 5, none⟩ c5) base ok v xs := Kd.V_far (Kd.V_far (Kd.V_far (Kd.V_far (Kd.V_far (Kd.V_far h hne _) hne _) hne _) hne _) hne _) hne _
theorem vmR {α : Type} {d : Kd α} {e base : Nat} {ok : Nat → Prop} {w : World} {v : Value} {xs : List α} {p : Prop} (x : Kd.R d e w base ok v xs) (h : Kd.R d e w base ok v xs → p := by (intro x_; (with_reducible repeat (first | apply Kd.R_alloc | apply Kd.R_drewN | apply Kd.R_drew)); refine Kd.R_mono x_ ?_; intro k_; (try simp only [and_imp]); intros; and_intros <;> assumption)) : p := h x
theorem vfR {α : Type} {d : Kd α} {e base : Nat} {ok : Nat → Prop} {w : World} {v : Value} {xs : List α} {g : Nat} {c0 c1 c2 c3 c4 c5 : Value} (h : Kd.R d e w base ok v xs) (hne : ∀ k_, ok k_ → k_ ≠ g) : Kd.R d e ((((((w.setCell ⟨g, 0, none⟩ c0).setCell ⟨g, 1, none⟩ c1).setCell ⟨g, 2, none⟩ c2).setCell ⟨g, 3, none⟩ c3).setCell ⟨g, 4, none⟩ c4).setCell ⟨g, 5, none⟩ c5) base ok v xs := Kd.R_far (Kd.R_far (Kd.R_far (Kd.R_far (Kd.R_far (Kd.R_far h hne _) hne _) hne _) hne _) hne _) hne _
theorem vmN {α : Type} {d : Kd α} {e base : Nat} {ok : Nat → Prop} {w : World} {v : Value} {xs : List α} {p : Prop} (x : Kd.N d e w base ok v xs) (h : Kd.N d e w base ok v xs → p := by (intro x_; (with_reducible repeat (first | apply Kd.N_alloc | apply Kd.N_drewN | apply Kd.N_drew)); refine Kd.N_mono x_ ?_; intro k_; (try simp only [and_imp]); intros; and_intros <;> assumption)) : p := h x
theorem vfN {α : Type} {d : Kd α} {e base : Nat} {ok : Nat → Prop} {w : World} {v : Value} {xs : List α} {g : Nat} {c0 c1 c2 c3 c4 c5 : Value} (h : Kd.N d e w base ok v xs) (hne : ∀ k_, ok k_ → k_ ≠ g) : Kd.N d e ((((((w.setCell ⟨g, 0, none⟩ c0).setCell ⟨g, 1, none⟩ c1).setCell ⟨g, 2, none⟩ c2).setCell ⟨g, 3, none⟩ c3).setCell ⟨g, 4, none⟩ c4).setCell ⟨g, 5, none⟩ c5) base ok v xs := Kd.N_far (Kd.N_far (Kd.N_far (Kd.N_far (Kd.N_far (Kd.N_far h hne _) hne _) hne _) hne _) hne _) hne _
theorem vwB {a p : Prop} (x : a) (h : a → p := by (intro x_; (with_reducible repeat (first | apply blk_drewN | apply blk_drew | apply blk_alloc)); exact x_)) : p := h x
theorem zc2 {w : World} {g : Nat} {t : TypeId} {c0 c1 : Value} (h : w.heap[g]? = some (.cells #[c0, c1] t (0, 0))) : w.cell? ⟨g, 0, none⟩ = some c0 ∧ w.cell? ⟨g, 1, none⟩ = some c1 := by
  have hc := @blk_cell w g t #[c0, c1] h
  exact ⟨hc 0, hc 1⟩
theorem zc6 {w : World} {g : Nat} {t : TypeId} {c0 c1 c2 c3 c4 c5 : Value} (h : w.heap[g]? = some (.cells #[c0, c1, c2, c3, c4, c5] t (0, 0))) : w.cell? ⟨g, 0, none⟩ = some c0 ∧ w.cell? ⟨g, 1, none⟩ = some c1 ∧ w.cell? ⟨g, 2, none⟩ = some c2 ∧ w.cell? ⟨g, 3, none⟩ = some c3 ∧ w.cell? ⟨g, 4, none⟩ = some c4 ∧ w.cell? ⟨g, 5, none⟩ = some c5 := by
  have hc := @blk_cell w g t #[c0, c1, c2, c3, c4, c5] h
  exact ⟨hc 0, hc 1, hc 2, hc 3, hc 4, hc 5⟩
theorem zd2 {w : World} {g : Nat} {t : TypeId} {c0 c1 : Value} {r : Prop} (h : w.heap[g]? = some (.cells #[c0, c1] t (0, 0))) (hr : r) : w.cell? ⟨g, 0, none⟩ = some c0 ∧ w.cell? ⟨g, 1, none⟩ = some c1 ∧ r := by
  have hc := @blk_cell w g t #[c0, c1] h
  exact ⟨hc 0, hc 1, hr⟩
theorem zd6 {w : World} {g : Nat} {t : TypeId} {c0 c1 c2 c3 c4 c5 : Value} {r : Prop} (h : w.heap[g]? = some (.cells #[c0, c1, c2, c3, c4, c5] t (0, 0))) (hr : r) : w.cell? ⟨g, 0, none⟩ = some c0 ∧ w.cell? ⟨g, 1, none⟩ = some c1 ∧ w.cell? ⟨g, 2, none⟩ = some c2 ∧ w.cell? ⟨g, 3, none⟩ = some c3 ∧ w.cell? ⟨g, 4, none⟩ = some c4 ∧ w.cell? ⟨g, 5, none⟩ = some c5 ∧ r := by
  have hc := @blk_cell w g t #[c0, c1, c2, c3, c4, c5] h
  exact ⟨hc 0, hc 1, hc 2, hc 3, hc 4, hc 5, hr⟩
theorem put6 {w : World} {g : Nat} {t : TypeId} {a0 a1 a2 a3 a4 a5 b0 b1 b2 b3 b4 b5 : Value} (h : w.heap[g]? = some (.cells #[a0, a1, a2, a3, a4, a5] t (0, 0))) : ((((((w.setCell ⟨g, 0, none⟩ b0).setCell ⟨g, 1, none⟩ b1).setCell ⟨g, 2, none⟩ b2).setCell ⟨g, 3, none⟩ b3).setCell ⟨g, 4, none⟩ b4).setCell ⟨g, 5, none⟩ b5).heap[g]? = some (.cells #[b0, b1, b2, b3, b4, b5] t (0, 0)) := blk_put (blk_put (blk_put (blk_put (blk_put (blk_put h 0 b0 rfl) 1 b1 rfl) 2 b2 rfl) 3 b3 rfl) 4 b4 rfl) 5 b5 rfl
theorem far6 {w : World} {g g' : Nat} {t : TypeId} {cs : Array Value} {b0 b1 b2 b3 b4 b5 : Value} (h : w.heap[g]? = some (.cells cs t (0, 0))) (hp : g ≠ g') : ((((((w.setCell ⟨g', 0, none⟩ b0).setCell ⟨g', 1, none⟩ b1).setCell ⟨g', 2, none⟩ b2).setCell ⟨g', 3, none⟩ b3).setCell ⟨g', 4, none⟩ b4).setCell ⟨g', 5, none⟩ b5).heap[g]? = some (.cells cs t (0, 0)) := blk_far (blk_far (blk_far (blk_far (blk_far (blk_far h hp _) hp _) hp _) hp _) hp _) hp _
theorem lm {α : Type} {a b : Option α} (h : LeO a b := by first | (with_reducible exact LeO.refl _) | (with_reducible exact LeO.none _)) : LeO a b := h
theorem pz {P : Program} {ops : Array Oper} {Q : Exit → Act → World → Prop} {md : Region.Mode} {S : World → Prop} {ds : List Nat} {i : Nat} {N : Option Tmp} {oi : Oper} {v : Value} {fuel : Nat} {l : Array Bool} {a : Act} {w : World} (l' : Array Bool) {a' : Act} (h : wpAnyLast P md ops Q S ds fuel l' a' w) (hi : ops[i]? = some oi := by rfl) (hN : oi.dst = N := by rfl) (hc : anyB md ops l l' i = true := by first | exact any_of HT_.out (by kernel_rfl) | kernel_rfl) (hQ : ∀ c a w, Q (.panic c) (a.put oi.dst v) w → Q (.panic c) a w := by exact fun _ _ _ h => h) (hy : Yields P ops oi v a := by (refine Or.inl ⟨by rfl, ?_⟩; intro w'; go_simp; with_reducible rfl)) (ha : a.put N v = a' := by (simp only [Act.put, List.setIfInBounds_toArray, List.set_cons_zero, List.set_cons_succ, i64_w, i32_w]; rfl)) : wpAnyLast P md ops Q S ds (fuel + 1) l a w := pure_ l' hi hN hc hQ hy ha h
theorem pu {P : Program} {ops : Array Oper} {Q : Exit → Act → World → Prop} {md : Region.Mode} {S : World → Prop} {ds : List Nat} {i : Nat} {N : Option Tmp} {oi : Oper} {fuel : Nat} {l : Array Bool} {a : Act} {w : World} (l' : Array Bool) {a' : Act} (h : wpAnyLast P md ops Q S ds fuel l' a' w) (hi : ops[i]? = some oi := by rfl) (hN : oi.dst = N := by rfl) (hc : anyB md ops l l' i = true := by first | exact any_of HT_.out (by kernel_rfl) | kernel_rfl) (hQ : ∀ c a w, Q (.panic c) (a.put oi.dst undef) w → Q (.panic c) a w := by exact fun _ _ _ h => h) (hy : Yields P ops oi undef a := by exact Or.inr ⟨by rfl, rfl⟩) (ha : a.put N undef = a' := by (simp only [Act.put, List.setIfInBounds_toArray, List.set_cons_zero, List.set_cons_succ, i64_w, i32_w]; rfl)) : wpAnyLast P md ops Q S ds (fuel + 1) l a w := pure_ l' hi hN hc hQ hy ha h
theorem tz1 {P : Program} {ops : Array Oper} {Q : Exit → Act → World → Prop} {md : Region.Mode} {S : World → Prop} {ds : List Nat} {i : Nat} {N : Option Tmp} {oi : Oper} {v : Value} {fuel : Nat} {l : Array Bool} {a : Act} {w : World} (l' : Array Bool) (hS : S w) {a' : Act} (h : wpAnyLast P md ops Q S ds fuel l' a' w) (hi : ops[i]? = some oi := by rfl) (hN : oi.dst = N := by rfl) (hc : takeB md ops ds l l' i = true := by first | exact take_ofW HT_.out HW_.out (by kernel_rfl) | kernel_rfl) (hQ : ∀ c a w, Q (.panic c) (a.put oi.dst v) w → Q (.panic c) a w := by exact fun _ _ _ h => h) (hy : YieldsIf P ops S oi v a := by (refine Or.inl ⟨by rfl, ?_⟩; intro w' s0; go_simp; with_reducible rfl)) (ha : a.put N v = a' := by (simp only [Act.put, List.setIfInBounds_toArray, List.set_cons_zero, List.set_cons_succ, i64_w, i32_w]; rfl)) : wpAnyLast P md ops Q S ds (fuel + 1) l a w := take_ l' hi hN hc hQ hy hS ha h
theorem tz12 {P : Program} {ops : Array Oper} {Q : Exit → Act → World → Prop} {md : Region.Mode} {S : World → Prop} {ds : List Nat} {i : Nat} {N : Option Tmp} {oi : Oper} {v : Value} {fuel : Nat} {l : Array Bool} {a : Act} {w : World} (l' : Array Bool) (hS : S w) {a' : Act} (h : wpAnyLast P md ops Q S ds fuel l' a' w) (hi : ops[i]? = some oi := by rfl) (hN : oi.dst = N := by rfl) (hc : takeB md ops ds l l' i = true := by first | exact take_ofW HT_.out HW_.out (by kernel_rfl) | kernel_rfl) (hQ : ∀ c a w, Q (.panic c) (a.put oi.dst v) w → Q (.panic c) a w := by exact fun _ _ _ h => h) (hy : YieldsIf P ops S oi v a := by (refine Or.inl ⟨by rfl, ?_⟩; rintro w' ⟨s0, s1, s2, s3, s4, s5, s6, s7, s8, s9, s10, s11⟩; go_simp; with_reducible rfl)) (ha : a.put N v = a' := by (simp only [Act.put, List.setIfInBounds_toArray, List.set_cons_zero, List.set_cons_succ, i64_w, i32_w]; rfl)) : wpAnyLast P md ops Q S ds (fuel + 1) l a w := take_ l' hi hN hc hQ hy hS ha h
theorem tz12c {P : Program} {ops : Array Oper} {Q : Exit → Act → World → Prop} {md : Region.Mode} {S : World → Prop} {ds : List Nat} {i : Nat} {N : Option Tmp} {oi : Oper} {v : Value} {fuel : Nat} {l : Array Bool} {a : Act} {w : World} (l' : Array Bool) (hS : S w) {a' : Act} (h : wpAnyLast P md ops Q S ds fuel l' a' w) (hi : ops[i]? = some oi := by rfl) (hN : oi.dst = N := by rfl) (hc : takeB md ops ds l l' i = true := by first | exact take_ofW HT_.out HW_.out (by kernel_rfl) | kernel_rfl) (hQ : ∀ c a w, Q (.panic c) (a.put oi.dst v) w → Q (.panic c) a w := by exact fun _ _ _ h => h) (hy : YieldsIf P ops S oi v a := by (refine Or.inl ⟨by rfl, ?_⟩; rintro w' ⟨s0, s1, s2, s3, s4, s5, s6, s7, s8, s9, s10, s11⟩; first | (clear s6 s7 s8 s9 s10 s11; go_simp; with_reducible rfl) | (clear s0 s1 s2 s3 s4 s5; go_simp; with_reducible rfl))) (ha : a.put N v = a' := by (simp only [Act.put, List.setIfInBounds_toArray, List.set_cons_zero, List.set_cons_succ, i64_w, i32_w]; rfl)) : wpAnyLast P md ops Q S ds (fuel + 1) l a w := take_ l' hi hN hc hQ hy hS ha h
theorem tz14 {P : Program} {ops : Array Oper} {Q : Exit → Act → World → Prop} {md : Region.Mode} {S : World → Prop} {ds : List Nat} {i : Nat} {N : Option Tmp} {oi : Oper} {v : Value} {fuel : Nat} {l : Array Bool} {a : Act} {w : World} (l' : Array Bool) (hS : S w) {a' : Act} (h : wpAnyLast P md ops Q S ds fuel l' a' w) (hi : ops[i]? = some oi := by rfl) (hN : oi.dst = N := by rfl) (hc : takeB md ops ds l l' i = true := by first | exact take_ofW HT_.out HW_.out (by kernel_rfl) | kernel_rfl) (hQ : ∀ c a w, Q (.panic c) (a.put oi.dst v) w → Q (.panic c) a w := by exact fun _ _ _ h => h) (hy : YieldsIf P ops S oi v a := by (refine Or.inl ⟨by rfl, ?_⟩; rintro w' ⟨s0, s1, s2, s3, s4, s5, s6, s7, s8, s9, s10, s11, s12, s13⟩; go_simp; with_reducible rfl)) (ha : a.put N v = a' := by (simp only [Act.put, List.setIfInBounds_toArray, List.set_cons_zero, List.set_cons_succ, i64_w, i32_w]; rfl)) : wpAnyLast P md ops Q S ds (fuel + 1) l a w := take_ l' hi hN hc hQ hy hS ha h
theorem tz18 {P : Program} {ops : Array Oper} {Q : Exit → Act → World → Prop} {md : Region.Mode} {S : World → Prop} {ds : List Nat} {i : Nat} {N : Option Tmp} {oi : Oper} {v : Value} {fuel : Nat} {l : Array Bool} {a : Act} {w : World} (l' : Array Bool) (hS : S w) {a' : Act} (h : wpAnyLast P md ops Q S ds fuel l' a' w) (hi : ops[i]? = some oi := by rfl) (hN : oi.dst = N := by rfl) (hc : takeB md ops ds l l' i = true := by first | exact take_ofW HT_.out HW_.out (by kernel_rfl) | kernel_rfl) (hQ : ∀ c a w, Q (.panic c) (a.put oi.dst v) w → Q (.panic c) a w := by exact fun _ _ _ h => h) (hy : YieldsIf P ops S oi v a := by (refine Or.inl ⟨by rfl, ?_⟩; rintro w' ⟨s0, s1, s2, s3, s4, s5, s6, s7, s8, s9, s10, s11, s12, s13, s14, s15, s16, s17⟩; go_simp; with_reducible rfl)) (ha : a.put N v = a' := by (simp only [Act.put, List.setIfInBounds_toArray, List.set_cons_zero, List.set_cons_succ, i64_w, i32_w]; rfl)) : wpAnyLast P md ops Q S ds (fuel + 1) l a w := take_ l' hi hN hc hQ hy hS ha h
theorem tz2 {P : Program} {ops : Array Oper} {Q : Exit → Act → World → Prop} {md : Region.Mode} {S : World → Prop} {ds : List Nat} {i : Nat} {N : Option Tmp} {oi : Oper} {v : Value} {fuel : Nat} {l : Array Bool} {a : Act} {w : World} (l' : Array Bool) (hS : S w) {a' : Act} (h : wpAnyLast P md ops Q S ds fuel l' a' w) (hi : ops[i]? = some oi := by rfl) (hN : oi.dst = N := by rfl) (hc : takeB md ops ds l l' i = true := by first | exact take_ofW HT_.out HW_.out (by kernel_rfl) | kernel_rfl) (hQ : ∀ c a w, Q (.panic c) (a.put oi.dst v) w → Q (.panic c) a w := by exact fun _ _ _ h => h) (hy : YieldsIf P ops S oi v a := by (refine Or.inl ⟨by rfl, ?_⟩; rintro w' ⟨s0, s1⟩; go_simp; with_reducible rfl)) (ha : a.put N v = a' := by (simp only [Act.put, List.setIfInBounds_toArray, List.set_cons_zero, List.set_cons_succ, i64_w, i32_w]; rfl)) : wpAnyLast P md ops Q S ds (fuel + 1) l a w := take_ l' hi hN hc hQ hy hS ha h
theorem tz24 {P : Program} {ops : Array Oper} {Q : Exit → Act → World → Prop} {md : Region.Mode} {S : World → Prop} {ds : List Nat} {i : Nat} {N : Option Tmp} {oi : Oper} {v : Value} {fuel : Nat} {l : Array Bool} {a : Act} {w : World} (l' : Array Bool) (hS : S w) {a' : Act} (h : wpAnyLast P md ops Q S ds fuel l' a' w) (hi : ops[i]? = some oi := by rfl) (hN : oi.dst = N := by rfl) (hc : takeB md ops ds l l' i = true := by first | exact take_ofW HT_.out HW_.out (by kernel_rfl) | kernel_rfl) (hQ : ∀ c a w, Q (.panic c) (a.put oi.dst v) w → Q (.panic c) a w := by exact fun _ _ _ h => h) (hy : YieldsIf P ops S oi v a := by (refine Or.inl ⟨by rfl, ?_⟩; rintro w' ⟨s0, s1, s2, s3, s4, s5, s6, s7, s8, s9, s10, s11, s12, s13, s14, s15, s16, s17, s18, s19, s20, s21, s22, s23⟩; go_simp; with_reducible rfl)) (ha : a.put N v = a' := by (simp only [Act.put, List.setIfInBounds_toArray, List.set_cons_zero, List.set_cons_succ, i64_w, i32_w]; rfl)) : wpAnyLast P md ops Q S ds (fuel + 1) l a w := take_ l' hi hN hc hQ hy hS ha h
theorem tz3 {P : Program} {ops : Array Oper} {Q : Exit → Act → World → Prop} {md : Region.Mode} {S : World → Prop} {ds : List Nat} {i : Nat} {N : Option Tmp} {oi : Oper} {v : Value} {fuel : Nat} {l : Array Bool} {a : Act} {w : World} (l' : Array Bool) (hS : S w) {a' : Act} (h : wpAnyLast P md ops Q S ds fuel l' a' w) (hi : ops[i]? = some oi := by rfl) (hN : oi.dst = N := by rfl) (hc : takeB md ops ds l l' i = true := by first | exact take_ofW HT_.out HW_.out (by kernel_rfl) | kernel_rfl) (hQ : ∀ c a w, Q (.panic c) (a.put oi.dst v) w → Q (.panic c) a w := by exact fun _ _ _ h => h) (hy : YieldsIf P ops S oi v a := by (refine Or.inl ⟨by rfl, ?_⟩; rintro w' ⟨s0, s1, s2⟩; go_simp; with_reducible rfl)) (ha : a.put N v = a' := by (simp only [Act.put, List.setIfInBounds_toArray, List.set_cons_zero, List.set_cons_succ, i64_w, i32_w]; rfl)) : wpAnyLast P md ops Q S ds (fuel + 1) l a w := take_ l' hi hN hc hQ hy hS ha h
theorem tz4 {P : Program} {ops : Array Oper} {Q : Exit → Act → World → Prop} {md : Region.Mode} {S : World → Prop} {ds : List Nat} {i : Nat} {N : Option Tmp} {oi : Oper} {v : Value} {fuel : Nat} {l : Array Bool} {a : Act} {w : World} (l' : Array Bool) (hS : S w) {a' : Act} (h : wpAnyLast P md ops Q S ds fuel l' a' w) (hi : ops[i]? = some oi := by rfl) (hN : oi.dst = N := by rfl) (hc : takeB md ops ds l l' i = true := by first | exact take_ofW HT_.out HW_.out (by kernel_rfl) | kernel_rfl) (hQ : ∀ c a w, Q (.panic c) (a.put oi.dst v) w → Q (.panic c) a w := by exact fun _ _ _ h => h) (hy : YieldsIf P ops S oi v a := by (refine Or.inl ⟨by rfl, ?_⟩; rintro w' ⟨s0, s1, s2, s3⟩; go_simp; with_reducible rfl)) (ha : a.put N v = a' := by (simp only [Act.put, List.setIfInBounds_toArray, List.set_cons_zero, List.set_cons_succ, i64_w, i32_w]; rfl)) : wpAnyLast P md ops Q S ds (fuel + 1) l a w := take_ l' hi hN hc hQ hy hS ha h
theorem tz6 {P : Program} {ops : Array Oper} {Q : Exit → Act → World → Prop} {md : Region.Mode} {S : World → Prop} {ds : List Nat} {i : Nat} {N : Option Tmp} {oi : Oper} {v : Value} {fuel : Nat} {l : Array Bool} {a : Act} {w : World} (l' : Array Bool) (hS : S w) {a' : Act} (h : wpAnyLast P md ops Q S ds fuel l' a' w) (hi : ops[i]? = some oi := by rfl) (hN : oi.dst = N := by rfl) (hc : takeB md ops ds l l' i = true := by first | exact take_ofW HT_.out HW_.out (by kernel_rfl) | kernel_rfl) (hQ : ∀ c a w, Q (.panic c) (a.put oi.dst v) w → Q (.panic c) a w := by exact fun _ _ _ h => h) (hy : YieldsIf P ops S oi v a := by (refine Or.inl ⟨by rfl, ?_⟩; rintro w' ⟨s0, s1, s2, s3, s4, s5⟩; go_simp; with_reducible rfl)) (ha : a.put N v = a' := by (simp only [Act.put, List.setIfInBounds_toArray, List.set_cons_zero, List.set_cons_succ, i64_w, i32_w]; rfl)) : wpAnyLast P md ops Q S ds (fuel + 1) l a w := take_ l' hi hN hc hQ hy hS ha h
theorem oz {P : Program} {ops : Array Oper} {Q : Exit → Act → World → Prop} {md : Region.Mode} {S : World → Prop} {ds : List Nat} {i : Nat} {N : Option Tmp} {oi : Oper} {fuel : Nat} {l : Array Bool} {a : Act} {w : World} (l' : Array Bool) (h : ∀ K : Act → World → Prop, Shut (∀ a' w', S w' → (S w' → wpAnyLast P md ops Q S ds fuel l' a' w') → K a' w') → if Region.wanted oi (yielded ops a.tmps) = true then Oper.wp P oi a w K Q else K (a.put N undef) w) (hi : ops[i]? = some oi := by rfl) (hN : oi.dst = N := by rfl) (hc : readyB md ops l l' i = true := by first | exact one_of HT_.out (by kernel_rfl) | kernel_rfl) (hd : i ∉ ds := by decide) : wpAnyLast P md ops Q S ds (fuel + 1) l a w := one_ l' hi hN hc hd h
abbrev h6_ (w : World) (g : Nat) (c0 c1 c2 c3 c4 c5 : Value) : Prop := w.cell? ⟨g, 0, none⟩ = some c0 ∧ w.cell? ⟨g, 1, none⟩ = some c1 ∧ w.cell? ⟨g, 2, none⟩ = some c2 ∧ w.cell? ⟨g, 3, none⟩ = some c3 ∧ w.cell? ⟨g, 4, none⟩ = some c4 ∧ w.cell? ⟨g, 5, none⟩ = some c5
abbrev h12_ (w : World) (g : Nat) (c0 c1 c2 c3 c4 c5 : Value) (g' : Nat) (c6 c7 c8 c9 c10 c11 : Value) : Prop := w.cell? ⟨g, 0, none⟩ = some c0 ∧ w.cell? ⟨g, 1, none⟩ = some c1 ∧ w.cell? ⟨g, 2, none⟩ = some c2 ∧ w.cell? ⟨g, 3, none⟩ = some c3 ∧ w.cell? ⟨g, 4, none⟩ = some c4 ∧ w.cell? ⟨g, 5, none⟩ = some c5 ∧ w.cell? ⟨g', 0, none⟩ = some c6 ∧ w.cell? ⟨g', 1, none⟩ = some c7 ∧ w.cell? ⟨g', 2, none⟩ = some c8 ∧ w.cell? ⟨g', 3, none⟩ = some c9 ∧ w.cell? ⟨g', 4, none⟩ = some c10 ∧ w.cell? ⟨g', 5, none⟩ = some c11
theorem gwl {n g : Nat} {w : World} (hg : g = w.heap.size) (h : n ≤ w.heap.size) : n ≤ g := by rw [hg]; exact h
theorem nbl {g g' : Nat} {w : World} {o : Obj} (hg : g' = w.heap.size) (h : w.heap[g]? = some o) : g ≠ g' := by rw [hg]; exact Nat.ne_of_lt (blk_lt h)
abbrev oT := true
abbrev oF := false
abbrev mk0 : Array Bool := #[oF, oF, oF, oF, oF, oF, oF, oF, oF, oF, oF, oF]
abbrev mk1 : Array Bool := #[oT, oF, oF, oF, oF, oF, oF, oF, oF, oF, oF, oF]
abbrev mk2 : Array Bool := #[oT, oT, oT, oT, oT, oT, oT, oT, oF, oF, oF, oF]
abbrev mk3 : Array Bool := #[oT, oT, oT, oT, oT, oT, oT, oT, oT, oF, oF, oF]
abbrev mk4 : Array Bool := #[oT, oT, oT, oT, oT, oT, oT, oT, oT, oT, oF, oF]
abbrev mk5 : Array Bool := #[oT, oT, oT, oT, oT, oT, oT, oT, oT, oT, oT, oF]
abbrev mk6 : Array Bool := #[oT, oT, oT, oT, oT, oT, oT, oT, oT, oT, oT, oT]
abbrev mk7 : Array Bool := #[oT, oT, oT, oT, oT, oT, oT, oT, oF, oT, oT, oT, oT, oF, oF, oF]
abbrev mk8 : Array Bool := #[oT, oF, oT, oF, oF, oF, oF, oF, oF, oF, oF, oF]
abbrev mk9 : Array Bool := #[oT, oT, oT, oT, oT, oT, oT, oT, oT, oT, oT, oT, oF]
abbrev mk10 : Array Bool := #[oT, oF, oT, oF, oF, oT, oF, oF, oF, oF, oF, oF]
abbrev mk11 : Array Bool := #[oT, oF, oT, oF, oF, oT, oF, oT, oF, oF, oF, oF]
abbrev mk12 : Array Bool := #[oT, oT, oT, oF, oF, oT, oF, oT, oF, oF, oF, oF]
abbrev mk13 : Array Bool := #[oT, oT, oT, oT, oF, oT, oF, oT, oF, oF, oF, oF]
abbrev mk14 : Array Bool := #[oT, oT, oT, oT, oT, oT, oF, oT, oF, oF, oF, oF]
abbrev mk15 : Array Bool := #[oT, oT, oT, oT, oT, oT, oT, oT, oT, oF, oF]
abbrev mk16 : Array Bool := #[oF, oF, oF, oF, oF, oF, oF]
abbrev mk17 : Array Bool := #[oT, oF, oF, oF, oF, oF, oF]
abbrev mk18 : Array Bool := #[oT, oT, oT, oT, oT, oF, oF]
abbrev mk19 : Array Bool := #[oT, oT, oT, oT, oT, oT, oF]
abbrev mk20 : Array Bool := #[oT, oT, oT, oT, oT, oT, oT]
abbrev mk21 : Array Bool := #[oT, oF, oF, oT, oF, oF, oF]
abbrev mk22 : Array Bool := #[oT, oT, oF, oT, oF, oF, oF]
abbrev mk23 : Array Bool := #[oT, oT, oF, oT, oT, oF, oF]
abbrev mk24 : Array Bool := #[oF, oF, oF, oF, oF, oF, oF, oF]
abbrev mk25 : Array Bool := #[oT, oF, oF, oF, oF, oF, oF, oF]
abbrev mk26 : Array Bool := #[oT, oF, oF, oF, oT, oF, oF, oF]
abbrev mk27 : Array Bool := #[oT, oT, oF, oF, oT, oF, oF, oF]
abbrev mk28 : Array Bool := #[oT, oT, oF, oF, oT, oT, oF, oF]
abbrev mk29 : Array Bool := #[oT, oT, oT, oF, oT, oT, oF, oF]
abbrev mk30 : Array Bool := #[oT, oT, oT, oT, oT, oT, oF, oF]
abbrev mk31 : Array Bool := #[oT, oT, oT, oT, oT, oT, oT, oF]
abbrev mk32 : Array Bool := #[oT, oT, oT, oT, oT, oT, oT, oT]
abbrev mk33 : Array Bool := #[oF, oF, oF, oF, oF, oF, oF, oF, oF, oF, oF, oF, oF, oF, oF, oF]
abbrev mk34 : Array Bool := #[oT, oT, oT, oT, oT, oF, oT, oT, oF, oT, oT, oT, oT, oF, oF, oF]
abbrev mk35 : Array Bool := #[oT, oT, oT, oT, oT, oT, oT, oT, oT, oT, oT, oT, oT, oF, oF, oF]
abbrev mk36 : Array Bool := #[oT, oT, oT, oT, oT, oT, oT, oT, oT, oT, oT, oT, oT, oT, oF, oF]
abbrev mk37 : Array Bool := #[oT, oT, oT, oT, oT, oT, oT, oT, oT, oT, oT, oT, oT, oT, oT, oF]
abbrev mk38 : Array Bool := #[oT, oT, oT, oT, oT, oT, oT, oT, oT, oT, oT, oT, oT, oT, oT, oT]
abbrev mk39 : Array Bool := #[oF, oF, oF, oF, oF, oF, oF, oF, oF, oF, oF, oF, oF]
abbrev mk40 : Array Bool := #[oT, oT, oT, oT, oT, oT, oT, oT, oT, oF, oF, oF, oF]
abbrev mk41 : Array Bool := #[oT, oT, oT, oT, oT, oT, oT, oT, oT, oT, oF, oF, oF]
abbrev mk42 : Array Bool := #[oT, oT, oT, oT, oT, oT, oT, oT, oT, oT, oT, oF, oF]
abbrev mk43 : Array Bool := #[oT, oT, oT, oT, oT, oT, oT, oT, oT, oT, oT, oT, oT]
abbrev mk44 : Array Bool := #[oF, oF, oF, oF, oF, oF, oF, oF, oF, oF, oF, oF, oF, oF, oF, oF, oF, oF, oF, oF, oF, oF]
abbrev mk45 : Array Bool := #[oT, oF, oF, oF, oF, oF, oF, oF, oF, oF, oF, oF, oF, oF, oF, oF, oF, oF, oF, oF, oF, oF]
abbrev mk46 : Array Bool := #[oT, oT, oF, oF, oF, oF, oF, oF, oF, oF, oF, oF, oF, oF, oF, oF, oF, oF, oF, oF, oF, oF]
abbrev mk47 : Array Bool := #[oT, oT, oT, oF, oF, oF, oF, oF, oF, oF, oF, oF, oF, oF, oF, oF, oF, oF, oF, oF, oF, oF]
abbrev mk48 : Array Bool := #[oT, oT, oT, oT, oF, oF, oF, oF, oF, oF, oF, oF, oF, oF, oF, oF, oF, oF, oF, oF, oF, oF]
abbrev mk49 : Array Bool := #[oT, oT, oT, oT, oT, oF, oF, oF, oF, oF, oF, oF, oF, oF, oF, oF, oF, oF, oF, oF, oF, oF]
abbrev mk50 : Array Bool := #[oT, oT, oT, oT, oT, oT, oF, oF, oF, oF, oF, oF, oF, oF, oF, oF, oF, oF, oF, oF, oF, oF]
abbrev mk51 : Array Bool := #[oT, oT, oT, oT, oT, oT, oT, oF, oF, oF, oF, oF, oF, oF, oF, oF, oF, oF, oF, oF, oF, oF]
abbrev mk52 : Array Bool := #[oT, oT, oT, oT, oT, oT, oT, oT, oF, oF, oF, oF, oF, oF, oF, oF, oF, oF, oF, oF, oF, oF]
abbrev mk53 : Array Bool := #[oT, oT, oT, oT, oT, oT, oT, oT, oT, oF, oF, oF, oF, oF, oF, oF, oF, oF, oF, oF, oF, oF]
abbrev mk54 : Array Bool := #[oT, oT, oT, oT, oT, oT, oT, oT, oT, oT, oF, oF, oF, oF, oF, oF, oF, oF, oF, oF, oF, oF]
abbrev mk55 : Array Bool := #[oT, oT, oT, oT, oT, oT, oT, oT, oT, oT, oT, oF, oF, oF, oF, oF, oF, oF, oF, oF, oF, oF]
abbrev mk56 : Array Bool := #[oT, oT, oT, oT, oT, oT, oT, oT, oT, oT, oT, oT, oF, oF, oF, oF, oF, oF, oF, oF, oF, oF]
abbrev mk57 : Array Bool := #[oT, oT, oT, oT, oT, oT, oT, oT, oT, oT, oT, oT, oT, oF, oF, oF, oF, oF, oF, oF, oF, oF]
abbrev mk58 : Array Bool := #[oT, oT, oT, oT, oT, oT, oT, oT, oT, oT, oT, oT, oT, oT, oF, oF, oF, oF, oF, oF, oF, oF]
abbrev mk59 : Array Bool := #[oT, oT, oT, oT, oT, oT, oT, oT, oT, oT, oT, oT, oT, oT, oT, oT, oT, oT, oF, oF, oF, oF]
abbrev mk60 : Array Bool := #[oT, oT, oT, oT, oT, oT, oT, oT, oT, oT, oT, oT, oT, oT, oT, oT, oT, oT, oT, oF, oF, oF]
abbrev mk61 : Array Bool := #[oT, oT, oT, oT, oT, oT, oT, oT, oT, oT, oT, oT, oT, oT, oT, oT, oT, oT, oT, oT, oF, oF]
abbrev mk62 : Array Bool := #[oT, oT, oT, oT, oT, oT, oT, oT, oT, oT, oT, oT, oT, oT, oT, oT, oT, oT, oT, oT, oT, oF]
abbrev mk63 : Array Bool := #[oT, oT, oT, oT, oT, oT, oT, oT, oT, oT, oT, oT, oT, oT, oT, oT, oT, oT, oT, oT, oT, oT]
abbrev mk64 : Array Bool := #[oF, oF, oF, oF, oF, oF, oF, oF, oF]
abbrev mk65 : Array Bool := #[oT, oF, oF, oF, oF, oF, oF, oF, oF]
abbrev mk66 : Array Bool := #[oT, oT, oT, oT, oT, oT, oT, oF, oF]
abbrev mk67 : Array Bool := #[oT, oT, oT, oT, oT, oT, oT, oT, oF]
abbrev mk68 : Array Bool := #[oT, oT, oT, oT, oT, oT, oT, oT, oT]
abbrev mk69 : Array Bool := #[oT, oT, oT, oT, oT, oT, oT, oT, oF, oF, oF]
abbrev mk70 : Array Bool := #[oT, oT, oT, oT, oT, oT, oT, oF, oF, oF, oF, oF]
abbrev mk71 : Array Bool := #[oT, oF, oF, oF, oF, oF, oF, oF, oF, oF, oF, oF, oF]
abbrev mk72 : Array Bool := #[oT, oF, oT, oF, oF, oF, oF, oF, oF, oF, oF, oF, oF]
abbrev mk73 : Array Bool := #[oT, oT, oT, oT, oT, oT, oT, oT, oT, oT, oT, oT, oT, oT, oT, oF, oF, oF, oF, oF, oF, oF]
abbrev mk74 : Array Bool := #[oT, oT, oT, oT, oT, oT, oT, oT, oT, oT, oT, oT, oT, oT, oT, oT, oF, oF, oF, oF, oF, oF]
abbrev mk75 : Array Bool := #[oT, oT, oT, oT, oT, oT, oT, oT, oT, oT, oT, oT, oT, oT, oT, oT, oT, oF, oF, oF, oF, oF]
abbrev mk76 : Array Bool := #[oF, oF, oF, oF, oF, oF, oF, oF, oF, oF, oF]
abbrev mk77 : Array Bool := #[oT, oF, oF, oF, oF, oF, oF, oF, oF, oF, oF]
abbrev mk78 : Array Bool := #[oT, oT, oF, oF, oF, oF, oF, oF, oF, oF, oF]
abbrev mk79 : Array Bool := #[oT, oT, oF, oT, oF, oF, oF, oF, oF, oF, oF]
abbrev mk80 : Array Bool := #[oT, oT, oF, oF, oF, oF, oF, oF, oF, oF, oF, oF]
abbrev mk81 : Array Bool := #[oT, oT, oT, oT, oF, oT, oT, oF, oF, oF, oF, oF]
abbrev mk82 : Array Bool := #[oF, oT, oF, oF, oF, oF, oF, oF, oF, oF, oF, oF, oF, oF, oF, oF]
abbrev mk83 : Array Bool := #[oF, oT, oF, oT, oF, oF, oF, oF, oF, oF, oF, oF, oF, oF, oF, oF]
abbrev mk84 : Array Bool := #[oF, oT, oT, oT, oT, oF, oT, oF, oF, oT, oF, oT, oF, oF, oF, oF]
abbrev mk85 : Array Bool := #[oF, oT, oT, oT, oT, oF, oT, oF, oF, oT, oT, oT, oF, oF, oF, oF]
abbrev mk86 : Array Bool := #[oF, oT, oT, oT, oT, oF, oT, oF, oF, oT, oT, oT, oT, oF, oF, oF]
abbrev mk87 : Array Bool := #[oT, oT, oT, oT, oT, oF, oT, oF, oF, oT, oT, oT, oT, oF, oF, oF]
abbrev mk88 : Array Bool := #[oF, oT, oT, oT, oT, oF, oT, oT, oF, oT, oT, oT, oT, oF, oF, oF]
abbrev mk89 : Array Bool := #[oT, oT, oT, oT, oT, oT, oT, oF, oF, oT, oT, oT, oT, oF, oF, oF]
abbrev mk90 : Array Bool := #[oT, oT, oT, oT, oT, oT, oT, oT, oT, oF, oF, oT, oF]
abbrev mk91 : Array Bool := #[oT, oT, oT, oT, oT, oT, oT, oT, oT, oT, oF, oT, oF]
abbrev mk92 : Array Bool := #[oF, oF, oF, oF, oF, oF, oF, oF, oF, oF, oF, oF, oF, oF]
abbrev mk93 : Array Bool := #[oF, oT, oF, oF, oF, oF, oF, oF, oF, oF, oF, oF, oF, oF]
abbrev mk94 : Array Bool := #[oF, oT, oF, oT, oF, oF, oF, oF, oF, oF, oF, oF, oF, oF]
abbrev mk95 : Array Bool := #[oF, oT, oF, oT, oF, oF, oT, oF, oF, oF, oF, oF, oF, oF]
abbrev mk96 : Array Bool := #[oF, oT, oF, oT, oF, oF, oT, oF, oT, oF, oF, oF, oF, oF]
abbrev mk97 : Array Bool := #[oF, oT, oF, oT, oF, oF, oT, oF, oT, oT, oF, oF, oF, oF]
abbrev mk98 : Array Bool := #[oF, oT, oT, oT, oF, oF, oT, oF, oT, oT, oF, oF, oF, oF]
abbrev mk99 : Array Bool := #[oF, oT, oT, oT, oT, oF, oT, oF, oT, oT, oF, oF, oF, oF]
abbrev mk100 : Array Bool := #[oF, oT, oT, oT, oT, oF, oT, oT, oT, oT, oF, oF, oF, oF]
abbrev mk101 : Array Bool := #[oF, oT, oT, oT, oT, oF, oT, oT, oT, oT, oT, oF, oF, oF]
abbrev mk102 : Array Bool := #[oT, oT, oT, oT, oT, oF, oT, oT, oT, oT, oT, oF, oF, oF]
abbrev mk103 : Array Bool := #[oT, oT, oT, oT, oT, oT, oT, oT, oT, oT, oT, oF, oF, oF]
abbrev mk104 : Array Bool := #[oT, oT, oT, oT, oT, oT, oT, oT, oT, oT, oT, oT, oF, oF]
abbrev mk105 : Array Bool := #[oT, oT, oT, oT, oT, oT, oT, oT, oT, oT, oT, oT, oT, oF]
abbrev mk106 : Array Bool := #[oT, oT, oT, oT, oT, oT, oT, oT, oT, oT, oT, oT, oT, oT]
abbrev mk107 : Array Bool := #[oT, oF, oT, oF, oF, oT, oF, oF, oF, oF, oF, oF, oF]
abbrev mk108 : Array Bool := #[oT, oF, oT, oF, oF, oT, oF, oT, oF, oF, oF, oF, oF]
abbrev mk109 : Array Bool := #[oT, oT, oT, oF, oF, oT, oF, oT, oF, oF, oF, oF, oF]
abbrev mk110 : Array Bool := #[oT, oT, oT, oT, oF, oT, oF, oT, oF, oF, oF, oF, oF]
abbrev mk111 : Array Bool := #[oT, oT, oT, oT, oF, oT, oT, oT, oF, oF, oF, oF, oF]
abbrev mk112 : Array Bool := #[oT, oT, oT, oT, oF, oT, oT, oT, oT, oF, oF, oF, oF]
abbrev mk113 : Array Bool := #[oT, oF, oF, oF, oF, oF, oF, oF, oF, oF, oF, oF, oF, oF, oF, oF]
abbrev mk114 : Array Bool := #[oT, oT, oF, oF, oF, oF, oF, oF, oF, oF, oF, oF, oF, oF, oF, oF]
abbrev mk115 : Array Bool := #[oT, oT, oT, oF, oF, oF, oF, oF, oF, oF, oF, oF, oF, oF, oF, oF]
abbrev mk116 : Array Bool := #[oT, oT, oT, oT, oF, oF, oF, oF, oF, oF, oF, oF, oF, oF, oF, oF]
abbrev mk117 : Array Bool := #[oT, oT, oT, oT, oT, oF, oF, oF, oF, oF, oF, oF, oF, oF, oF, oF]
abbrev mk118 : Array Bool := #[oT, oT, oT, oT, oT, oT, oT, oT, oT, oT, oT, oT, oF, oF, oF, oF]
abbrev p0 (a0 a1 a2 a3 : Nat → Prop) (a4 : Nat) (a5 : Option Addr) (a6 a7 a8 a9 a10 a11 : Nat) : Nat → Prop := fun k_ => ((a0 k_ ∨ a1 k_ ∨ a2 k_ ∨ a3 k_) ∨ a4 ≤ k_) ∧ zn (.slice a5 a6 a7) k_ ∧ k_ ≠ a8 ∧ k_ ≠ a9 ∧ k_ ≠ a10 ∧ k_ ≠ a11
abbrev p1 (a0 a1 a2 a3 : Nat → Prop) (a4 : Nat) (a5 : Option Addr) (a6 a7 : Nat) (a8 : Value) (a9 a10 a11 a12 : Nat) : Nat → Prop := fun k_ => ((a0 k_ ∨ a1 k_ ∨ a2 k_ ∨ a3 k_) ∨ a4 ≤ k_) ∧ zn (.slice a5 a6 a7) k_ ∧ some k_ ≠ (a8 : Value).ownBlock ∧ k_ ≠ a9 ∧ k_ ≠ a10 ∧ k_ ≠ a11 ∧ k_ ≠ a12
abbrev p2 (a0 a1 a2 a3 : Nat → Prop) (a4 : Nat) (a5 : Value) (a6 a7 a8 a9 : Nat) : Nat → Prop := fun k_ => ((a0 k_ ∨ a1 k_ ∨ a2 k_ ∨ a3 k_) ∨ a4 ≤ k_) ∧ some k_ ≠ (a5 : Value).ownBlock ∧ k_ ≠ a6 ∧ k_ ≠ a7 ∧ k_ ≠ a8 ∧ k_ ≠ a9
abbrev p3 (a0 a1 a2 a3 : Nat → Prop) (a4 : Nat) (a5 : Option Addr) (a6 a7 : Nat) (a8 : Option Addr) (a9 a10 a11 a12 a13 a14 : Nat) : Nat → Prop := fun k_ => ((a0 k_ ∨ a1 k_ ∨ a2 k_ ∨ a3 k_) ∨ a4 ≤ k_) ∧ zn (.slice a5 a6 a7) k_ ∧ zn (.slice a8 a9 a10) k_ ∧ k_ ≠ a11 ∧ k_ ≠ a12 ∧ k_ ≠ a13 ∧ k_ ≠ a14
abbrev p4 (a0 a1 a2 a3 : Nat → Prop) (a4 : Nat) (a5 : Option Addr) (a6 a7 : Nat) (a8 : Option Addr) (a9 a10 : Nat) (a11 : Option Addr) (a12 a13 a14 a15 a16 a17 : Nat) : Nat → Prop := fun k_ => ((a0 k_ ∨ a1 k_ ∨ a2 k_ ∨ a3 k_) ∨ a4 ≤ k_) ∧ zn (.slice a5 a6 a7) k_ ∧ zn (.slice a8 a9 a10) k_ ∧ zn (.slice a11 a12 a13) k_ ∧ k_ ≠ a14 ∧ k_ ≠ a15 ∧ k_ ≠ a16 ∧ k_ ≠ a17
abbrev p5 (a0 a1 a2 a3 : Nat → Prop) (a4 : Nat) (a5 : Option Addr) (a6 a7 : Nat) (a8 : Option Addr) (a9 a10 : Nat) (a11 : Option Addr) (a12 a13 : Nat) (a14 : Value) (a15 a16 a17 a18 : Nat) : Nat → Prop := fun k_ => ((a0 k_ ∨ a1 k_ ∨ a2 k_ ∨ a3 k_) ∨ a4 ≤ k_) ∧ zn (.slice a5 a6 a7) k_ ∧ zn (.slice a8 a9 a10) k_ ∧ zn (.slice a11 a12 a13) k_ ∧ some k_ ≠ (a14 : Value).ownBlock ∧ k_ ≠ a15 ∧ k_ ≠ a16 ∧ k_ ≠ a17 ∧ k_ ≠ a18
abbrev p6 (a0 a1 a2 a3 : Nat → Prop) (a4 : Nat) (a5 : Option Addr) (a6 a7 : Nat) (a8 : Option Addr) (a9 a10 : Nat) (a11 : Value) (a12 a13 a14 a15 : Nat) : Nat → Prop := fun k_ => ((a0 k_ ∨ a1 k_ ∨ a2 k_ ∨ a3 k_) ∨ a4 ≤ k_) ∧ zn (.slice a5 a6 a7) k_ ∧ zn (.slice a8 a9 a10) k_ ∧ some k_ ≠ (a11 : Value).ownBlock ∧ k_ ≠ a12 ∧ k_ ≠ a13 ∧ k_ ≠ a14 ∧ k_ ≠ a15
abbrev p7 (a0 a1 a2 a3 : Nat → Prop) (a4 : Nat) (a5 : Option Addr) (a6 a7 : Nat) (a8 : Option Addr) (a9 a10 : Nat) (a11 a12 : Value) (a13 : Option Addr) (a14 a15 a16 a17 a18 a19 : Nat) : Nat → Prop := fun k_ => ((a0 k_ ∨ a1 k_ ∨ a2 k_ ∨ a3 k_) ∨ a4 ≤ k_) ∧ zn (.slice a5 a6 a7) k_ ∧ zn (.slice a8 a9 a10) k_ ∧ some k_ ≠ (a11 : Value).ownBlock ∧ some k_ ≠ (a12 : Value).ownBlock ∧ zn (.slice a13 a14 a15) k_ ∧ k_ ≠ a16 ∧ k_ ≠ a17 ∧ k_ ≠ a18 ∧ k_ ≠ a19
abbrev p8 (a0 a1 a2 a3 : Nat → Prop) (a4 : Nat) (a5 : Option Addr) (a6 a7 : Nat) (a8 : Option Addr) (a9 a10 : Nat) (a11 : Option Addr) (a12 a13 : Nat) (a14 : Option Addr) (a15 a16 a17 a18 a19 a20 : Nat) : Nat → Prop := fun k_ => ((a0 k_ ∨ a1 k_ ∨ a2 k_ ∨ a3 k_) ∨ a4 ≤ k_) ∧ zn (.slice a5 a6 a7) k_ ∧ zn (.slice a8 a9 a10) k_ ∧ zn (.slice a11 a12 a13) k_ ∧ zn (.slice a14 a15 a16) k_ ∧ k_ ≠ a17 ∧ k_ ≠ a18 ∧ k_ ≠ a19 ∧ k_ ≠ a20
abbrev p9 (a0 : Nat) (a1 : Option Addr) (a2 a3 a4 a5 a6 a7 : Nat) : Nat → Prop := fun k_ => (a0 ≤ k_) ∧ zn (.slice a1 a2 a3) k_ ∧ k_ ≠ a4 ∧ k_ ≠ a5 ∧ k_ ≠ a6 ∧ k_ ≠ a7
abbrev p10 (a0 : Nat) (a1 : Option Addr) (a2 a3 : Nat) (a4 : Option Addr) (a5 a6 a7 a8 a9 a10 : Nat) : Nat → Prop := fun k_ => (a0 ≤ k_) ∧ zn (.slice a1 a2 a3) k_ ∧ zn (.slice a4 a5 a6) k_ ∧ k_ ≠ a7 ∧ k_ ≠ a8 ∧ k_ ≠ a9 ∧ k_ ≠ a10
theorem zb1 {w : World} {g : Nat} {t : TypeId} {c0 : Value} (h : w.heap[g]? = some (.cells #[c0] t (0, 0))) : w.cell? ⟨g, 0, none⟩ = some c0 ∧ w.frozen? ⟨g, 0, none⟩ = false := by
  have hc := @blk_cell w g t #[c0] h
  have hf := @blk_frozen w g t #[c0] h
  exact ⟨hc 0, hf 0⟩
theorem zb2 {w : World} {g : Nat} {t : TypeId} {c0 c1 : Value} (h : w.heap[g]? = some (.cells #[c0, c1] t (0, 0))) : w.cell? ⟨g, 0, none⟩ = some c0 ∧ w.cell? ⟨g, 1, none⟩ = some c1 ∧ w.frozen? ⟨g, 0, none⟩ = false ∧ w.frozen? ⟨g, 1, none⟩ = false := by
  have hc := @blk_cell w g t #[c0, c1] h
  have hf := @blk_frozen w g t #[c0, c1] h
  exact ⟨hc 0, hc 1, hf 0, hf 1⟩
theorem zb6 {w : World} {g : Nat} {t : TypeId} {c0 c1 c2 c3 c4 c5 : Value} (h : w.heap[g]? = some (.cells #[c0, c1, c2, c3, c4, c5] t (0, 0))) : w.cell? ⟨g, 0, none⟩ = some c0 ∧ w.cell? ⟨g, 1, none⟩ = some c1 ∧ w.cell? ⟨g, 2, none⟩ = some c2 ∧ w.cell? ⟨g, 3, none⟩ = some c3 ∧ w.cell? ⟨g, 4, none⟩ = some c4 ∧ w.cell? ⟨g, 5, none⟩ = some c5 ∧ w.frozen? ⟨g, 0, none⟩ = false ∧ w.frozen? ⟨g, 1, none⟩ = false ∧ w.frozen? ⟨g, 2, none⟩ = false ∧ w.frozen? ⟨g, 3, none⟩ = false ∧ w.frozen? ⟨g, 4, none⟩ = false ∧ w.frozen? ⟨g, 5, none⟩ = false := by
  have hc := @blk_cell w g t #[c0, c1, c2, c3, c4, c5] h
  have hf := @blk_frozen w g t #[c0, c1, c2, c3, c4, c5] h
  exact ⟨hc 0, hc 1, hc 2, hc 3, hc 4, hc 5, hf 0, hf 1, hf 2, hf 3, hf 4, hf 5⟩
def errW : Option Int → Value
 | none => .nilIface
 | some c => .iface 0 (.int .i64 c)
theorem errW_none : errW none = .nilIface := rfl
theorem errW_some (c : Int) : errW (some c) = .iface 0 (.int .i64 c) := rfl

theorem info3 : (Tryd.prog.info? 3).map (fun i => (i.zero, i.size, i.bytes)) = some (some (.int .i64 0), 1, 8) := by kernel_rfl
theorem info5 : (Tryd.prog.info? 5).map (fun i => (i.zero, i.size, i.bytes)) = some (some (.int .u8 0), 1, 1) := by kernel_rfl
theorem info9 : (Tryd.prog.info? 9).map (fun i => (i.zero, i.size, i.bytes)) = some (some (.string ⟨#[]⟩), 1, 16) := by kernel_rfl
theorem info33 : (Tryd.prog.info? 33).map (fun i => (i.zero, i.size, i.bytes)) = some (some (.agg #[(.int .i64 0), (.int .i64 0), (.int .i64 0), (.string ⟨#[]⟩), (.slice none 0 0), (.slice none 0 0)]), 6, 88) := by kernel_rfl
-- the values' own types
structure S30 where
 f0 : Int
 f1 : Int
def z30 : S30 := ⟨(0 : Int), (0 : Int)⟩
def k30 : Kd S30 := Kd.iso (Kd.pair (Kd.int .i64) (Kd.int .i64)) (fun x : S30 => (x.f0, x.f1))
theorem k30_open {w : World} {x : S30} {cs : List Value} (h : k30.K w x cs) : cs = [.int .i64 x.f0, .int .i64 x.f1] := by
 obtain ⟨_, _, rfl, rfl, rfl⟩ := h; exact rfl
theorem k30_openM {w : World} {base : Nat} {ok : Nat → Prop} {x : S30} {cs : List Value} (h : k30.M w base ok x cs) : cs = [.int .i64 x.f0, .int .i64 x.f1] := by
 obtain ⟨_, _, rfl, rfl, rfl⟩ := h; exact rfl
theorem k30_mk (w : World) (x : S30)  : k30.K w x [.int .i64 x.f0, .int .i64 x.f1] := ⟨[.int .i64 x.f0], [.int .i64 x.f1], rfl, rfl, rfl⟩
theorem k30_mkM (w : World) (base : Nat) (ok : Nat → Prop) (x : S30)  : k30.M w base ok x [.int .i64 x.f0, .int .i64 x.f1] := ⟨[.int .i64 x.f0], [.int .i64 x.f1], rfl, rfl, rfl⟩
theorem k30_mkF (W : World) (ok : Nat → Prop) (x : S30) : Kd.FK k30 W ok x [.int .i64 x.f0, .int .i64 x.f1] := fun W2 _ => k30_mk W2 x
def rd_T30 (xs : List S30) (i : Int) : S30 := xs.getD i.toNat z30
theorem at_T30 {w : World} {A : Option Addr} {n : Nat} {xs : List S30} (h : Kd.C k30 w A n xs) (i : Int) (h0 : 0 ≤ i) (h1 : i < n) : ∃ ad , A = some ad ∧ w.cell? (ad.add (i.toNat * 2)) = some (.int .i64 (rd_T30 xs i).f0) ∧ w.cell? ⟨(ad.add (i.toNat * 2)).block, (ad.add (i.toNat * 2)).off + 1, none⟩ = some (.int .i64 (rd_T30 xs i).f1) := by
 obtain ⟨ad, c, e, _, hK, hc0⟩ := Kd.C_get h z30 i h0 h1; have hc : ∀ j u, c[j]? = some u → w.cell? (ad.add (i.toNat * 2 + j)) = some u := hc0; obtain rfl := k30_open hK; exact ⟨ad, e, hc 0 _ rfl, by rw [← add_field _ _ 1 (by omega)]; exact hc 1 _ rfl⟩

def rd_L4 (xs : List (List ByteArray)) (i : Int) : (List ByteArray) := xs.getD i.toNat ([] : List ByteArray)
theorem at_L4 {w : World} {A : Option Addr} {n : Nat} {xs : List (List ByteArray)} (h : Kd.C (Kd.slice 9 Kd.string) w A n xs) (i : Int) (h0 : 0 ≤ i) (h1 : i < n) : ∃ ad A0 c0, A = some ad ∧ w.cell? (ad.add i.toNat) = some (.slice A0 (rd_L4 xs i).length c0) ∧ (rd_L4 xs i).length ≤ c0 ∧ Kd.string.C w A0 (rd_L4 xs i).length (rd_L4 xs i) := by
 obtain ⟨ad, c, e, _, hK, hc0⟩ := Kd.C_get h ([] : List ByteArray) i h0 h1; have hc : ∀ j u, c[j]? = some u → w.cell? (ad.add (i.toNat * 1 + j)) = some u := hc0; obtain ⟨A0, c0, rfl, l0, g0⟩ := hK; exact ⟨ad, A0, c0, e, by have hq := hc 0 _ rfl; rwa [Nat.mul_one, Nat.add_zero] at hq, l0, g0⟩

structure S33 where
 f0 : Int
 f1 : S30
 f2 : ByteArray
 f3 : (List S33)
 f4 : (List ByteArray)
def z33 : S33 := ⟨(0 : Int), z30, (⟨#[]⟩ : ByteArray), ([] : List S33), ([] : List ByteArray)⟩
def F33 (d : Kd S33) : Kd S33 := Kd.iso (Kd.pair (Kd.int .i64) (Kd.pair k30 (Kd.pair Kd.string (Kd.pair (Kd.slice 33 d) (Kd.slice 9 Kd.string))))) (fun x : S33 => (x.f0, x.f1, x.f2, x.f3, x.f4))
theorem mono33 : Kd.Mono F33 := Kd.mono_iso _ (Kd.mono_pair (Kd.mono_const _) (Kd.mono_pair (Kd.mono_const _) (Kd.mono_pair (Kd.mono_const _) (Kd.mono_pair (Kd.mono_slice 33 Kd.mono_id) (Kd.mono_const _)))))
theorem sub33 : Kd.Sub F33 [9, 33] := Kd.sub_iso _ (Kd.sub_pair (Kd.sub_const _ (by decide)) (Kd.sub_pair (Kd.sub_const _ (by decide)) (Kd.sub_pair (Kd.sub_const _ (by decide)) (Kd.sub_pair (Kd.sub_slice 33 (by decide) Kd.sub_id) (Kd.sub_const _ (by decide))))))
theorem sz33 : ∀ n, (Kd.upto F33 6 [9, 33] n).sz = 6 := Kd.upto_sz (fun _ => rfl)
def k33 : Kd S33 := Kd.fix F33 6 [9, 33] sz33 (Kd.upto_E sub33)
theorem k33_open {w : World} {x : S33} {cs : List Value} (h : k33.K w x cs) : ∃ A4 c4 A5 c5, cs = [.int .i64 x.f0, .int .i64 x.f1.f0, .int .i64 x.f1.f1, .string x.f2, .slice A4 x.f3.length c4, .slice A5 x.f4.length c5] ∧ x.f3.length ≤ c4 ∧ k33.C w A4 x.f3.length x.f3 ∧ x.f4.length ≤ c5 ∧ Kd.string.C w A5 x.f4.length x.f4 := by
 obtain ⟨n, h⟩ := h
 cases n with
 | zero => exact h.elim
 | succ n =>
  obtain ⟨_, _, rfl, rfl, ⟨_, _, rfl, s1, ⟨_, _, rfl, rfl, ⟨_, _, rfl, ⟨A4, c4, rfl, l4, g4⟩, ⟨A5, c5, rfl, l5, g5⟩⟩⟩⟩⟩ := h; obtain rfl := k30_open s1; exact ⟨A4, c4, A5, c5, rfl, l4, Kd.fix_C g4, l5, g5⟩
theorem k33_openM {w : World} {base : Nat} {ok : Nat → Prop} {x : S33} {cs : List Value} (h : k33.M w base ok x cs) : ∃ v4 v5, cs = [.int .i64 x.f0, .int .i64 x.f1.f0, .int .i64 x.f1.f1, .string x.f2, v4, v5] ∧ k33.R 33 w base ok v4 x.f3 ∧ Kd.string.R 9 w base ok v5 x.f4 := by
 obtain ⟨n, h⟩ := h
 cases n with
 | zero => exact h.elim
 | succ n =>
  obtain ⟨_, _, rfl, rfl, ⟨_, _, rfl, s1, ⟨_, _, rfl, rfl, ⟨_, _, rfl, ⟨v4, rfl, g4⟩, ⟨v5, rfl, g5⟩⟩⟩⟩⟩ := h; obtain rfl := k30_openM s1; exact ⟨v4, v5, rfl, Kd.fix_R g4, g5⟩
theorem k33_mk (w : World) (x : S33) {A4 : Option Addr} {c4 : Nat} (l4 : x.f3.length ≤ c4) (g4 : k33.C w A4 x.f3.length x.f3) {A5 : Option Addr} {c5 : Nat} (l5 : x.f4.length ≤ c5) (g5 : Kd.string.C w A5 x.f4.length x.f4) : k33.K w x [.int .i64 x.f0, .int .i64 x.f1.f0, .int .i64 x.f1.f1, .string x.f2, .slice A4 x.f3.length c4, .slice A5 x.f4.length c5] := by
 obtain ⟨n4, q4⟩ := Kd.fix_C_back mono33 g4; have r4 := Kd.upto_C_le mono33 sz33 (show n4 ≤ n4 by omega) q4; exact ⟨n4 + 1, ⟨[.int .i64 x.f0], [.int .i64 x.f1.f0, .int .i64 x.f1.f1, .string x.f2, .slice A4 x.f3.length c4, .slice A5 x.f4.length c5], rfl, rfl, ⟨[.int .i64 x.f1.f0, .int .i64 x.f1.f1], [.string x.f2, .slice A4 x.f3.length c4, .slice A5 x.f4.length c5], rfl, (k30_mk w x.f1 ), ⟨[.string x.f2], [.slice A4 x.f3.length c4, .slice A5 x.f4.length c5], rfl, rfl, ⟨[.slice A4 x.f3.length c4], [.slice A5 x.f4.length c5], rfl, ⟨A4, c4, rfl, l4, r4⟩, ⟨A5, c5, rfl, l5, g5⟩⟩⟩⟩⟩⟩
theorem k33_mkM (w : World) (base : Nat) (ok : Nat → Prop) (x : S33) {v4 : Value} (g4 : k33.R 33 w base ok v4 x.f3) {v5 : Value} (g5 : Kd.string.R 9 w base ok v5 x.f4) : k33.M w base ok x [.int .i64 x.f0, .int .i64 x.f1.f0, .int .i64 x.f1.f1, .string x.f2, v4, v5] := by
 obtain ⟨n4, q4⟩ := Kd.fix_R_back mono33 g4; have r4 := Kd.upto_R_le mono33 sz33 (show n4 ≤ n4 by omega) q4; exact ⟨n4 + 1, ⟨[.int .i64 x.f0], [.int .i64 x.f1.f0, .int .i64 x.f1.f1, .string x.f2, v4, v5], rfl, rfl, ⟨[.int .i64 x.f1.f0, .int .i64 x.f1.f1], [.string x.f2, v4, v5], rfl, (k30_mkM w base ok x.f1 ), ⟨[.string x.f2], [v4, v5], rfl, rfl, ⟨[v4], [v5], rfl, ⟨v4, rfl, r4⟩, ⟨v5, rfl, g5⟩⟩⟩⟩⟩⟩
theorem k33_openF {W : World} {ok : Nat → Prop} {x : S33} {cs : List Value} (h : Kd.FK k33 W ok x cs) : ∃ A4 c4 A5 c5, cs = [.int .i64 x.f0, .int .i64 x.f1.f0, .int .i64 x.f1.f1, .string x.f2, .slice A4 x.f3.length c4, .slice A5 x.f4.length c5] ∧ x.f3.length ≤ c4 ∧ Kd.F k33 W ok A4 x.f3.length x.f3 ∧ x.f4.length ≤ c5 ∧ Kd.F Kd.string W ok A5 x.f4.length x.f4 := by
 obtain ⟨A4, c4, A5, c5, rfl, l4, _, l5, _⟩ := k33_open (Kd.FK_now h); exact ⟨A4, c4, A5, c5, rfl, l4, (fun W' hW => by obtain ⟨A4_, c4_, A5_, c5_, he, l4_, g4_, l5_, g5_⟩ := k33_open (h W' hW); injection (yF (show some (Value.slice A4 x.f3.length c4) = some (Value.slice A4_ x.f3.length c4_) from congrArg (fun l => l[4]?) he)) with ha_ _ _; rw [ha_]; exact g4_), l5, (fun W' hW => by obtain ⟨A4_, c4_, A5_, c5_, he, l4_, g4_, l5_, g5_⟩ := k33_open (h W' hW); injection (yF (show some (Value.slice A5 x.f4.length c5) = some (Value.slice A5_ x.f4.length c5_) from congrArg (fun l => l[5]?) he)) with ha_ _ _; rw [ha_]; exact g5_)⟩
theorem k33_mkF (W : World) (ok : Nat → Prop) (x : S33) {A4 : Option Addr} {c4 : Nat} (l4 : x.f3.length ≤ c4) (g4 : Kd.F k33 W ok A4 x.f3.length x.f3) {A5 : Option Addr} {c5 : Nat} (l5 : x.f4.length ≤ c5) (g5 : Kd.F Kd.string W ok A5 x.f4.length x.f4) : Kd.FK k33 W ok x [.int .i64 x.f0, .int .i64 x.f1.f0, .int .i64 x.f1.f1, .string x.f2, .slice A4 x.f3.length c4, .slice A5 x.f4.length c5] := fun W2 hW => k33_mk W2 x l4 (g4 W2 hW) l5 (g5 W2 hW)
def rd_T33 (xs : List S33) (i : Int) : S33 := xs.getD i.toNat z33
theorem at_T33 {w : World} {A : Option Addr} {n : Nat} {xs : List S33} (h : Kd.C k33 w A n xs) (i : Int) (h0 : 0 ≤ i) (h1 : i < n) : ∃ ad A4 c4 A5 c5, A = some ad ∧ w.cell? (ad.add (i.toNat * 6)) = some (.int .i64 (rd_T33 xs i).f0) ∧ w.cell? ⟨(ad.add (i.toNat * 6)).block, (ad.add (i.toNat * 6)).off + 1, none⟩ = some (.int .i64 (rd_T33 xs i).f1.f0) ∧ w.cell? ⟨(ad.add (i.toNat * 6)).block, (ad.add (i.toNat * 6)).off + 2, none⟩ = some (.int .i64 (rd_T33 xs i).f1.f1) ∧ w.cell? ⟨(ad.add (i.toNat * 6)).block, (ad.add (i.toNat * 6)).off + 3, none⟩ = some (.string (rd_T33 xs i).f2) ∧ w.cell? ⟨(ad.add (i.toNat * 6)).block, (ad.add (i.toNat * 6)).off + 4, none⟩ = some (.slice A4 (rd_T33 xs i).f3.length c4) ∧ w.cell? ⟨(ad.add (i.toNat * 6)).block, (ad.add (i.toNat * 6)).off + 5, none⟩ = some (.slice A5 (rd_T33 xs i).f4.length c5) ∧ (rd_T33 xs i).f3.length ≤ c4 ∧ k33.C w A4 (rd_T33 xs i).f3.length (rd_T33 xs i).f3 ∧ (rd_T33 xs i).f4.length ≤ c5 ∧ Kd.string.C w A5 (rd_T33 xs i).f4.length (rd_T33 xs i).f4 := by
 obtain ⟨ad, c, e, _, hK, hc0⟩ := Kd.C_get h z33 i h0 h1; have hc : ∀ j u, c[j]? = some u → w.cell? (ad.add (i.toNat * 6 + j)) = some u := hc0; obtain ⟨A4, c4, A5, c5, rfl, l4, g4, l5, g5⟩ := k33_open hK; exact ⟨ad, A4, c4, A5, c5, e, hc 0 _ rfl, by rw [← add_field _ _ 1 (by omega)]; exact hc 1 _ rfl, by rw [← add_field _ _ 2 (by omega)]; exact hc 2 _ rfl, by rw [← add_field _ _ 3 (by omega)]; exact hc 3 _ rfl, by rw [← add_field _ _ 4 (by omega)]; exact hc 4 _ rfl, by rw [← add_field _ _ 5 (by omega)]; exact hc 5 _ rfl, l4, g4, l5, g5⟩

end Go.Proofs.YtoajejdicfabmaaDoor.Q

namespace Go.Proofs.YtoajejdicfabmaaDoor.Q
open Go.RowKit Go.Proofs.YtoajejdicfabmaaDoorW.PrintWords Go.Proofs.YtoajejdicfabmaaDoorW.PrintLast Go.Proofs.YtoajejdicfabmaaDoorW.PrintMore Go.Proofs.YtoajejdicfabmaaDoorX
attribute [local go_sem] max2_int min2_int max_two min_two max_three min_three max_four min_four   -- for this text's walks alone
set_option linter.unusedVariables false
set_option linter.unusedSimpArgs false

def impl_isLetter.f (a0 : Int) : Option (Bool) := if a0 ≥ 97 then (if a0 ≤ 122 then (some true) else (some (a0 == 95))) else (some (a0 == 95))
set_option maxHeartbeats 8000000 in
set_option maxRecDepth 100000 in
theorem impl_isLetter.calls (a0 : Int) (r : Bool) (w : World) (h : impl_isLetter.f a0 = some r) :
  Calls Tryd.prog 51 #[.int .u8 a0] w fun e w' => e = .returned (.bool r) ∧ Drawn0 w w' := by
 have H : (if a0 ≥ 97 then (if a0 ≤ 122 then (some true) else (some (a0 == 95))) else (some (a0 == 95))) = some r := h; clear h; by_cases c2 : a0 ≥ 97
 ·rw [if_pos c2] at H; have ka : decide (97 ≤ a0) = true := yD c2; clear c2; by_cases c3 : a0 ≤ 122
  ·rw [if_pos c3] at H; have i2 : decide (a0 ≤ 122) = true := yD c3; clear c3; obtain rfl := yF H; go_enter Tryd.func51, Tryd.ntmps51; go_wp2
   go_ret
   exact ⟨apB, apG⟩
  ·rw [if_neg c3] at H; have i2 : decide (a0 ≤ 122) = false := decide_eq_false c3; clear c3; obtain rfl := yF H; go_enter Tryd.func51, Tryd.ntmps51; go_wp2
   go_ret
   exact ⟨apB, apG⟩
 ·rw [if_neg c2] at H; have ka : decide (97 ≤ a0) = false := decide_eq_false c2; clear c2; obtain rfl := yF H; go_enter Tryd.func51, Tryd.ntmps51; go_wp2
  go_ret
  exact ⟨apB, apG⟩


def impl_isFigure.f (a0 : Int) : Option (Bool) := if a0 ≥ 48 then (some (decide (a0 ≤ 57))) else (some false)
set_option maxHeartbeats 8000000 in
set_option maxRecDepth 100000 in
theorem impl_isFigure.calls (a0 : Int) (r : Bool) (w : World) (h : impl_isFigure.f a0 = some r) :
  Calls Tryd.prog 68 #[.int .u8 a0] w fun e w' => e = .returned (.bool r) ∧ Drawn0 w w' := by
 have H : (if a0 ≥ 48 then (some (decide (a0 ≤ 57))) else (some false)) = some r := h; clear h; by_cases c2 : a0 ≥ 48
 ·rw [if_pos c2] at H; have ka : decide (48 ≤ a0) = true := yD c2; clear c2; obtain rfl := yF H; go_enter Tryd.func68, Tryd.ntmps68; go_wp2
  go_ret
  exact ⟨apB, apG⟩
 ·rw [if_neg c2] at H; have ka : decide (48 ≤ a0) = false := decide_eq_false c2; clear c2; obtain rfl := yF H; go_enter Tryd.func68, Tryd.ntmps68; go_wp2
  go_ret
  exact ⟨apB, apG⟩


def impl_inName.f (a0 : Int) : Option (Bool) := (impl_isLetter.f a0).bind fun Ka => (if Ka = true then (some true) else ((impl_isFigure.f a0).bind fun Kb => (some Kb)))
set_option maxHeartbeats 8000000 in
set_option maxRecDepth 100000 in
theorem impl_inName.calls (a0 : Int) (r : Bool) (w : World) (h : impl_inName.f a0 = some r) :
  Calls Tryd.prog 53 #[.int .u8 a0] w fun e w' => e = .returned (.bool r) ∧ Drawn0 w w' := by
 have H : ((impl_isLetter.f a0).bind fun Ka => (if Ka = true then (some true) else ((impl_isFigure.f a0).bind fun Kb => (some Kb)))) = some r := h; clear h; replace H := Option.bind_eq_some_iff.mp H; obtain ⟨Ka, A20, H⟩ := H; have A2 := zA A20; clear A20; by_cases c3 : Ka = true
 ·subst c3; have H1 := H; rw [if_pos rfl] at H1; clear H; have H := H1; clear H1; obtain rfl := yF H; go_enter Tryd.func53, Tryd.ntmps53; go_wp2_with (first | ((with_reducible refine zV (f := 51) rfl ?_); refine goesL_ (some 4) rfl rfl Tryd.func51 (by kernel_rfl) rfl #[.int .u8 a0] rfl apC ?_; (with_reducible refine (impl_isLetter.calls a0 true _ A2.out).mono ?_); rintro e w' ⟨rfl, ⟨nd, rfl⟩⟩; refine ⟨_, rfl, ?_⟩))
  go_ret
  exact ⟨apB, apG⟩
 ·replace c3 := Bool.eq_false_iff.mpr c3; subst c3; have H1 := H; rw [if_neg (show ¬ (false = true) by decide)] at H1; clear H; have H := H1; clear H1; replace H := Option.bind_eq_some_iff.mp H; obtain ⟨Kb, A40, H⟩ := H; have A4 := zA A40; clear A40; obtain rfl := yF H; go_enter Tryd.func53, Tryd.ntmps53; go_wp2_with (first | ((with_reducible refine zV (f := 51) rfl ?_); refine goesL_ (some 4) rfl rfl Tryd.func51 (by kernel_rfl) rfl #[.int .u8 a0] rfl apC ?_; (with_reducible refine (impl_isLetter.calls a0 false _ A2.out).mono ?_); rintro e w' ⟨rfl, ⟨nd, rfl⟩⟩; refine ⟨_, rfl, ?_⟩) | (go_at_call 68; (with_reducible refine (impl_isFigure.calls a0 Kb _ A4.out).mono ?_); rintro e w' ⟨rfl, ⟨nd, rfl⟩⟩))
  go_ret
  exact ⟨apB, apG⟩


def impl_run_at_inName.l0 : Nat → ByteArray → Int → Option (Int)
 | 0, _, _ => none
 | k + 1, x0, x1 => if x1 < (x0.size : Int) then (if 0 ≤ x1 then ((impl_inName.f (bt x0 x1)).bind fun Nz => (if Nz = true then (impl_run_at_inName.l0 k x0 (wrap64 (x1 + 1))) else (some x1))) else (none)) else (some x1)
def impl_run_at_inName.f (k : Nat) (a0 : ByteArray) (a1 : Int)  : Option (Int) := impl_run_at_inName.l0 k a0 a1
theorem impl_run_at_inName.mono_l : ∀ k, (∀ y0 y1, LeO (impl_run_at_inName.l0 k y0 y1) (impl_run_at_inName.l0 (k + 1) y0 y1))
 | 0 => fun _ _ r h => by simp [impl_run_at_inName.l0] at h
 | k + 1 => by
  have ih0 := impl_run_at_inName.mono_l k
  ·intro y0 y1; unfold impl_run_at_inName.l0
   repeat' first
   | (with_reducible exact ih0 _ _)
   | exact lm
   | (with_reducible refine LeO.ite ?_ ?_)
   | (with_reducible refine LeO.bind ?_ (fun _ => ?_))
   | exact LeO.none _
theorem impl_run_at_inName.mono : ∀ a0 a1 k, LeO (impl_run_at_inName.f k a0 a1) (impl_run_at_inName.f (k + 1) a0 a1) := by
 intro a0 a1 k; have ih0 := impl_run_at_inName.mono_l k; unfold impl_run_at_inName.f
 repeat' first
   | (with_reducible exact ih0 _ _)
   | exact lm
   | (with_reducible refine LeO.ite ?_ ?_)
   | (with_reducible refine LeO.bind ?_ (fun _ => ?_))
   | exact LeO.none _
set_option maxHeartbeats 8000000 in
set_option maxRecDepth 100000 in
theorem impl_run_at_inName.calls (k : Nat) (a0 : ByteArray) (a1 : Int)  (r : Int) (w : World) (h : impl_run_at_inName.f k a0 a1 = some r) :
  Calls Tryd.prog 52 #[.string a0, .int .i64 a1, .func (.func 53) #[] #[]] w fun e w' => e = .returned (.int .i64 r) ∧ Drawn0 w w' := by
 have H : (impl_run_at_inName.l0 k a0 a1) = some r := h; clear h; have H' := zA H; clear H; go_enter Tryd.func52, Tryd.ntmps52; go_wp2
 go_loopg [1] k (fun kq v1 w' => ∃ (kt : Int), v1 = .int .i64 kt ∧ Aside0 (impl_run_at_inName.l0 kq a0 kt = some r) ∧ Aside0 (kq ≤ k) ∧ Drawn0 w w')
 case atStart => exact ⟨(a1), apB, H', ⟨yH _⟩, apG⟩
 case round =>
  clear H'; (try clear p2); obtain ⟨kt, rfl, HA, HK1, ⟨m1, rfl⟩⟩ := hrel
  cases gk with
  | zero => exact absurd HA.out (by simp [impl_run_at_inName.l0])
  | succ k1 =>
   have H := HA.out; clear HA; simp only [impl_run_at_inName.l0] at H; by_cases c4 : kt < (a0.size : Int)
   ·rw [if_pos c4] at H; have me : decide (kt < (a0.size : Int)) = true := yD c4; clear c4; by_cases c5 : 0 ≤ kt
    ·rw [if_pos c5] at H; have dI : decide (0 ≤ kt) = true := yD c5; clear c5; replace H := Option.bind_eq_some_iff.mp H; obtain ⟨Nz, A70, H⟩ := H; have A7 := zA A70; clear A70; have HC8 := zA H; clear H; have p6 : 0 ≤ (kt : Int) := yE apD; have q6 : kt < (a0.size : Int) := yE apD; have hx6 := bt_at a0 kt; replace p6 := eq_true p6; replace q6 := eq_true q6; go_upto_if 17 with (first | (go_at_call 53; (with_reducible refine (impl_inName.calls (bt a0 kt) Nz _ A7.out).mono ?_); rintro e w' ⟨rfl, ⟨nd, rfl⟩⟩))
     (try simp only [Act.put, zL, zM, zN])
     have H := HC8.out; clear HC8; by_cases c9 : Nz = true
     ·subst c9; have H1 := H; rw [if_pos rfl] at H1; clear H; have H := H1; clear H1; have H' := zA H; clear H; go_wp2
      go_roundg k1
      case measure => have := HK1.out; omega
      case rel => exact ⟨(wrap64 (kt + 1)), apB, H', ⟨apR⟩, apG⟩
     ·replace c9 := Bool.eq_false_iff.mpr c9; subst c9; have H1 := H; rw [if_neg (show ¬ (false = true) by decide)] at H1; clear H; have H := H1; clear H1; obtain rfl := yF H; go_wp2
      go_ret
      exact ⟨apB, apG⟩
    ·rw [if_neg c5] at H; exact absurd H (by simp)
   ·rw [if_neg c4] at H; have me : decide (kt < (a0.size : Int)) = false := decide_eq_false c4; clear c4; obtain rfl := yF H; go_wp2
    go_ret
    exact ⟨apB, apG⟩


def slices_Index_string_string.l0 : Nat → List ByteArray → ByteArray → Int → Int → Option (Int)
 | 0, _, _, _, _ => none
 | k + 1, x0, x1, x7, x8 => if x8 < x7 then (if 0 ≤ x8 then (if x8 < (x0.length : Int) then (if x1.toList = (rdOf ByteArray.empty x0 x8).toList then (some x8) else (slices_Index_string_string.l0 k x0 x1 x7 (wrap64 (x8 + 1)))) else (none)) else (none)) else (some (-1))
def slices_Index_string_string.f (k : Nat) (l0 : List ByteArray) (a1 : ByteArray) : Option (Int) := slices_Index_string_string.l0 k l0 a1 (l0.length : Int) 0
theorem slices_Index_string_string.mono_l : ∀ k, (∀ y0 y1 y2 y3, LeO (slices_Index_string_string.l0 k y0 y1 y2 y3) (slices_Index_string_string.l0 (k + 1) y0 y1 y2 y3))
 | 0 => fun _ _ _ _ r h => by simp [slices_Index_string_string.l0] at h
 | k + 1 => by
  have ih0 := slices_Index_string_string.mono_l k
  ·intro y0 y1 y2 y3; unfold slices_Index_string_string.l0
   repeat' first
   | (with_reducible exact ih0 _ _ _ _)
   | exact lm
   | (with_reducible refine LeO.ite ?_ ?_)
   | (with_reducible refine LeO.bind ?_ (fun _ => ?_))
   | exact LeO.none _
theorem slices_Index_string_string.mono : ∀ a0 a1 k, LeO (slices_Index_string_string.f k a0 a1) (slices_Index_string_string.f (k + 1) a0 a1) := by
 intro a0 a1 k; have ih0 := slices_Index_string_string.mono_l k; unfold slices_Index_string_string.f
 repeat' first
   | (with_reducible exact ih0 _ _ _ _)
   | exact lm
   | (with_reducible refine LeO.ite ?_ ?_)
   | (with_reducible refine LeO.bind ?_ (fun _ => ?_))
   | exact LeO.none _
set_option maxHeartbeats 8000000 in
set_option maxRecDepth 100000 in
theorem slices_Index_string_string.calls (k : Nat) (A0 : Option Addr) (c0 : Nat) (l0 : List ByteArray) (a1 : ByteArray) (r : Int) (w : World) (hr0 : Kd.C Kd.string w A0 l0.length l0) (hc0 : l0.length ≤ c0) (h : slices_Index_string_string.f k l0 a1 = some r) :
  Calls Tryd.prog 69 #[.slice A0 l0.length c0, .string a1] w fun e w' => e = .returned (.int .i64 r) ∧ Drawn0 w w' := by
 have HR0 := zA hr0; have HC0 := zA hc0; clear hr0 hc0; have H : (slices_Index_string_string.l0 k l0 a1 (l0.length : Int) 0) = some r := h; clear h; have H' := zA H; clear H; go_enter Tryd.func69, Tryd.ntmps69; go_wp2
 go_loopg [8] k (fun kq v8 w' => ∃ (cW : Int), v8 = .int .i64 cW ∧ Aside0 (slices_Index_string_string.l0 kq l0 a1 (l0.length : Int) cW = some r) ∧ Aside0 (kq ≤ k) ∧ Drawn0 w w')
 case atStart => exact ⟨(0), apB, H', ⟨yH _⟩, apG⟩
 case round =>
  clear H'; (try clear p2); obtain ⟨cW, rfl, HA, HK1, ⟨m1, rfl⟩⟩ := hrel
  cases gk with
  | zero => exact absurd HA.out (by simp [slices_Index_string_string.l0])
  | succ k1 =>
   have H := HA.out; clear HA; simp only [slices_Index_string_string.l0] at H; by_cases c3 : cW < (l0.length : Int)
   ·rw [if_pos c3] at H; have i2 : decide (cW < (l0.length : Int)) = true := yD c3; clear c3; by_cases c4 : 0 ≤ cW
    ·rw [if_pos c4] at H; have me : decide (0 ≤ cW) = true := yD c4; clear c4; by_cases c5 : cW < (l0.length : Int)
     ·rw [if_pos c5] at H; have dI : decide (cW < (l0.length : Int)) = true := yD c5; clear c5; by_cases c6 : a1.toList = (rdOf ByteArray.empty l0 cW).toList
      ·rw [if_pos c6] at H; have oC : (a1.toList == (rdOf ByteArray.empty l0 cW).toList) = true := beq_iff_eq.mpr c6; have wE : (a1.toList != (rdOf ByteArray.empty l0 cW).toList) = false := bne_eq_false_iff_eq.mpr c6; clear c6; obtain rfl := yF H; have CK : 0 ≤ (cW : Int) := yE apD; have CL : cW < (l0.length : Int) := yE apD; obtain ⟨WQ, TC, NA⟩ := Kd.at_string HR0.out cW CK CL; cases TC; replace CK := eq_true CK; replace CL := eq_true CL; go_wp2
       go_ret
       exact ⟨apB, apG⟩
      ·rw [if_neg c6] at H; have oC : (a1.toList == (rdOf ByteArray.empty l0 cW).toList) = false := beq_eq_false_iff_ne.mpr c6; have wE : (a1.toList != (rdOf ByteArray.empty l0 cW).toList) = true := bne_iff_ne.mpr c6; have H' := zA H; clear H; have CK : 0 ≤ (cW : Int) := yE apD; have CL : cW < (l0.length : Int) := yE apD; obtain ⟨WQ, TC, NA⟩ := Kd.at_string HR0.out cW CK CL; cases TC; replace CK := eq_true CK; replace CL := eq_true CL; go_wp2
       go_roundg k1
       case measure => have := HK1.out; omega
       case rel => exact ⟨(wrap64 (cW + 1)), apB, H', ⟨apR⟩, apG⟩
     ·rw [if_neg c5] at H; exact absurd H (by simp)
    ·rw [if_neg c4] at H; exact absurd H (by simp)
   ·rw [if_neg c3] at H; have i2 : decide (cW < (l0.length : Int)) = false := decide_eq_false c3; clear c3; obtain rfl := yF H; go_wp2
    go_ret
    exact ⟨apB, apG⟩


def slices_Contains_string_string.f (k : Nat) (l0 : List ByteArray) (a1 : ByteArray) : Option (Bool) := (slices_Index_string_string.f k l0 a1).bind fun Ke => (some (decide (Ke ≥ 0)))
theorem slices_Contains_string_string.mono : ∀ a0 a1 k, LeO (slices_Contains_string_string.f k a0 a1) (slices_Contains_string_string.f (k + 1) a0 a1) := by
 intro a0 a1 k; unfold slices_Contains_string_string.f
 repeat' first
   | (with_reducible exact slices_Index_string_string.mono _ _ _)
   | exact lm
   | (with_reducible refine LeO.ite ?_ ?_)
   | (with_reducible refine LeO.bind ?_ (fun _ => ?_))
   | exact LeO.none _
set_option maxHeartbeats 8000000 in
set_option maxRecDepth 100000 in
theorem slices_Contains_string_string.calls (k : Nat) (A0 : Option Addr) (c0 : Nat) (l0 : List ByteArray) (a1 : ByteArray) (r : Bool) (w : World) (hr0 : Kd.C Kd.string w A0 l0.length l0) (hc0 : l0.length ≤ c0) (h : slices_Contains_string_string.f k l0 a1 = some r) :
  Calls Tryd.prog 54 #[.slice A0 l0.length c0, .string a1] w fun e w' => e = .returned (.bool r) ∧ Drawn0 w w' := by
 have HR0 := zA hr0; have HC0 := zA hc0; clear hr0 hc0; have H : ((slices_Index_string_string.f k l0 a1).bind fun Ke => (some (decide (Ke ≥ 0)))) = some r := h; clear h; replace H := Option.bind_eq_some_iff.mp H; obtain ⟨Ke, A30, H⟩ := H; have A3 := zA A30; clear A30; obtain rfl := yF H; go_enter Tryd.func54, Tryd.ntmps54; go_wp2_with (first | ((with_reducible refine zV (f := 69) rfl ?_); refine goesL_ (some 7) rfl rfl Tryd.func69 (by kernel_rfl) rfl #[.slice A0 l0.length c0, .string a1] rfl apC ?_; (with_reducible refine (slices_Index_string_string.calls k _ _ l0 a1 Ke _ ?side1 ?side2 A3.out).mono ?_); (case side1 => repeat (first | exact HR0.out | (with_reducible refine Kd.C_alloc ?_ _) | (with_reducible refine Kd.C_drewN ?_ _) | (with_reducible refine Kd.C_drew ?_))); (case side2 => exact HC0.out); rintro e w' ⟨rfl, ⟨nd, rfl⟩⟩; refine ⟨_, rfl, ?_⟩))
 go_ret
 exact ⟨apB, apG⟩


def impl_NameOk.f (k : Nat) (a0 : ByteArray) (l1 : List (List ByteArray)) : Option (Bool) := if a0.toList = ([] : List UInt8) then (some false) else (if (a0.size : Int) ≤ 12 then (if 0 < (a0.size : Int) then ((impl_isLetter.f (bt a0 0)).bind fun Kf => (if Kf = true then ((impl_run_at_inName.f k a0 0).bind fun ua => (if ua = (a0.size : Int) then (if 0 < (l1.length : Int) then ((slices_Contains_string_string.f k (rd_L4 l1 0) a0).bind fun Kg => (some (!Kg))) else (none)) else (some false))) else (some false))) else (none)) else (some false))
theorem impl_NameOk.mono : ∀ a0 a1 k, LeO (impl_NameOk.f k a0 a1) (impl_NameOk.f (k + 1) a0 a1) := by
 intro a0 a1 k; unfold impl_NameOk.f
 repeat' first
   | (with_reducible exact impl_run_at_inName.mono _ _ _)
   | (with_reducible exact slices_Contains_string_string.mono _ _ _)
   | exact lm
   | (with_reducible refine LeO.ite ?_ ?_)
   | (with_reducible refine LeO.bind ?_ (fun _ => ?_))
   | exact LeO.none _
set_option maxHeartbeats 8000000 in
set_option maxRecDepth 100000 in
theorem impl_NameOk.calls (k : Nat) (a0 : ByteArray) (A1 : Option Addr) (c1 : Nat) (l1 : List (List ByteArray)) (r : Bool) (w : World) (hr1 : Kd.C (Kd.slice 9 Kd.string) w A1 l1.length l1) (hc1 : l1.length ≤ c1) (hg1 : A1 = some ⟨0, 0, none⟩) (h : impl_NameOk.f k a0 l1 = some r) :
  Calls Tryd.prog 36 #[.string a0] w fun e w' => e = .returned (.bool r) ∧ Drawn0 w w' := by
 have HG1 := zA hg1; clear hg1; have HR1 := zA hr1; have HC1 := zA hc1; clear hr1 hc1; have H : (if a0.toList = ([] : List UInt8) then (some false) else (if (a0.size : Int) ≤ 12 then (if 0 < (a0.size : Int) then ((impl_isLetter.f (bt a0 0)).bind fun Kf => (if Kf = true then ((impl_run_at_inName.f k a0 0).bind fun ua => (if ua = (a0.size : Int) then (if 0 < (l1.length : Int) then ((slices_Contains_string_string.f k (rd_L4 l1 0) a0).bind fun Kg => (some (!Kg))) else (none)) else (some false))) else (some false))) else (none)) else (some false))) = some r := h; clear h; by_cases c3 : a0.toList = ([] : List UInt8)
 ·rw [if_pos c3] at H; have i2 : (a0.toList == ([] : List UInt8)) = true := beq_iff_eq.mpr c3; have JF : (a0.toList != ([] : List UInt8)) = false := bne_eq_false_iff_eq.mpr c3; clear c3; obtain rfl := yF H; go_enter Tryd.func36, Tryd.ntmps36; go_wp2
  go_ret
  exact ⟨apB, apG⟩
 ·rw [if_neg c3] at H; have i2 : (a0.toList == ([] : List UInt8)) = false := beq_eq_false_iff_ne.mpr c3; have JF : (a0.toList != ([] : List UInt8)) = true := bne_iff_ne.mpr c3; by_cases c4 : (a0.size : Int) ≤ 12
  ·rw [if_pos c4] at H; have me : decide ((a0.size : Int) ≤ 12) = true := yD c4; have WR : decide (a0.size ≤ 12) = true := yD (by omega); clear c4; by_cases c5 : 0 < (a0.size : Int)
   ·rw [if_pos c5] at H; have dI : decide (0 < (a0.size : Int)) = true := yD c5; have eP : decide (0 < a0.size) = true := yD (by omega); clear c5; replace H := Option.bind_eq_some_iff.mp H; obtain ⟨Kf, A70, H⟩ := H; have A7 := zA A70; clear A70; by_cases c8 : Kf = true
    ·subst c8; have H1 := H; rw [if_pos rfl] at H1; clear H; have H := H1; clear H1; replace H := Option.bind_eq_some_iff.mp H; obtain ⟨ua, A90, H⟩ := H; have A9 := zA A90; clear A90; by_cases c10 : ua = (a0.size : Int)
     ·rw [if_pos c10] at H; have ki : (ua == (a0.size : Int)) = true := beq_iff_eq.mpr c10; have rT : (ua != (a0.size : Int)) = false := bne_eq_false_iff_eq.mpr c10; clear c10; by_cases c11 : 0 < (l1.length : Int)
      ·rw [if_pos c11] at H; have wV : decide (0 < (l1.length : Int)) = true := yD c11; have wW : decide (0 < l1.length) = true := yD (by omega); clear c11; replace H := Option.bind_eq_some_iff.mp H; obtain ⟨Kg, BE, H⟩ := H; have A12 := zA BE; clear BE; obtain rfl := yF H; have p6 : 0 ≤ (0 : Int) := (by omega); have q6 : 0 < a0.size := (by have : (0 : Int) < (a0.size : Int) := yE apD; omega); have hx6 : ∀ h : 0 < a0.size, ((a0[0]'h).toNat : Int) = bt a0 0 := bt_at a0 0; clear p6; have qi6 : (0 < (a0.size : Int)) = True := eq_true (yE apD); replace q6 := eq_true q6; go_enter Tryd.func36, Tryd.ntmps36; go_wp2_with (first | (go_at_call 51; (with_reducible refine (impl_isLetter.calls (bt a0 0) true _ A7.out).mono ?_); rintro e w' ⟨rfl, ⟨nd, rfl⟩⟩) | (go_at_call 52; (with_reducible refine (impl_run_at_inName.calls k a0 0 ua _ A9.out).mono ?_); rintro e w' ⟨rfl, ⟨nd, rfl⟩⟩; have TD : 0 ≤ (0 : Int) := (by omega); have TE : 0 < (l1.length : Int) := yE apD; obtain ⟨ad461, A461_0, c461_0, e461, xL, Dh, Di⟩ := at_L4 HR1.out 0 TD TE; cases e461; have qi461 : (0 < l1.length) = True := eq_true (by omega); (try rw [show ((0 : Int)).toNat = 0 from rfl] at xL); (try rw [Addr.add_zero'] at xL); (try rw [yF HG1.out] at xL); have NB := zA Di; have NC := zA Dh; clear Di Dh; replace TD := eq_true TD; replace TE := eq_true TE) | (go_at_call 54; (with_reducible refine (slices_Contains_string_string.calls k _ _ (rd_L4 l1 0) a0 Kg _ ?side1 ?side2 A12.out).mono ?_); (case side1 => repeat (first | exact NB.out | (with_reducible refine Kd.C_alloc ?_ _) | (with_reducible refine Kd.C_drewN ?_ _) | (with_reducible refine Kd.C_drew ?_))); (case side2 => exact NC.out); rintro e w' ⟨rfl, ⟨nd, rfl⟩⟩))
       go_ret
       exact ⟨apB, apG⟩
      ·rw [if_neg c11] at H; exact absurd H (by simp)
     ·rw [if_neg c10] at H; have ki : (ua == (a0.size : Int)) = false := beq_eq_false_iff_ne.mpr c10; have rT : (ua != (a0.size : Int)) = true := bne_iff_ne.mpr c10; obtain rfl := yF H; have p6 : 0 ≤ (0 : Int) := (by omega); have q6 : 0 < a0.size := (by have : (0 : Int) < (a0.size : Int) := yE apD; omega); have hx6 : ∀ h : 0 < a0.size, ((a0[0]'h).toNat : Int) = bt a0 0 := bt_at a0 0; clear p6; have qi6 : (0 < (a0.size : Int)) = True := eq_true (yE apD); replace q6 := eq_true q6; go_enter Tryd.func36, Tryd.ntmps36; go_wp2_with (first | (go_at_call 51; (with_reducible refine (impl_isLetter.calls (bt a0 0) true _ A7.out).mono ?_); rintro e w' ⟨rfl, ⟨nd, rfl⟩⟩) | (go_at_call 52; (with_reducible refine (impl_run_at_inName.calls k a0 0 ua _ A9.out).mono ?_); rintro e w' ⟨rfl, ⟨nd, rfl⟩⟩))
      go_ret
      exact ⟨apB, apG⟩
    ·replace c8 := Bool.eq_false_iff.mpr c8; subst c8; have H1 := H; rw [if_neg (show ¬ (false = true) by decide)] at H1; clear H; have H := H1; clear H1; obtain rfl := yF H; have p6 : 0 ≤ (0 : Int) := (by omega); have q6 : 0 < a0.size := (by have : (0 : Int) < (a0.size : Int) := yE apD; omega); have hx6 : ∀ h : 0 < a0.size, ((a0[0]'h).toNat : Int) = bt a0 0 := bt_at a0 0; clear p6; have qi6 : (0 < (a0.size : Int)) = True := eq_true (yE apD); replace q6 := eq_true q6; go_enter Tryd.func36, Tryd.ntmps36; go_wp2_with (first | (go_at_call 51; (with_reducible refine (impl_isLetter.calls (bt a0 0) false _ A7.out).mono ?_); rintro e w' ⟨rfl, ⟨nd, rfl⟩⟩))
     go_ret
     exact ⟨apB, apG⟩
   ·rw [if_neg c5] at H; exact absurd H (by simp)
  ·rw [if_neg c4] at H; have me : decide ((a0.size : Int) ≤ 12) = false := decide_eq_false c4; have WR : decide (a0.size ≤ 12) = false := decide_eq_false (by omega); clear c4; obtain rfl := yF H; go_enter Tryd.func36, Tryd.ntmps36; go_wp2
   go_ret
   exact ⟨apB, apG⟩


def spec_l1In.f (a0 : Int) (a1 : Int) (a2 : Int) : Option (Bool) := if a0 ≥ a1 then (some (decide (a0 ≤ a2))) else (some false)
set_option maxHeartbeats 8000000 in
set_option maxRecDepth 100000 in
theorem spec_l1In.calls (a0 : Int) (a1 : Int) (a2 : Int) (r : Bool) (w : World) (h : spec_l1In.f a0 a1 a2 = some r) :
  Calls Tryd.prog 66 #[.int .i64 a0, .int .i64 a1, .int .i64 a2] w fun e w' => e = .returned (.bool r) ∧ Drawn0 w w' := by
 have H : (if a0 ≥ a1 then (some (decide (a0 ≤ a2))) else (some false)) = some r := h; clear h; by_cases c4 : a0 ≥ a1
 ·rw [if_pos c4] at H; have me : decide (a1 ≤ a0) = true := yD c4; clear c4; obtain rfl := yF H; go_enter Tryd.func66, Tryd.ntmps66; go_wp2
  go_ret
  exact ⟨apB, apG⟩
 ·rw [if_neg c4] at H; have me : decide (a1 ≤ a0) = false := decide_eq_false c4; clear c4; obtain rfl := yF H; go_enter Tryd.func66, Tryd.ntmps66; go_wp2
  go_ret
  exact ⟨apB, apG⟩


def spec_l2Has.l0 : Nat → List ByteArray → ByteArray → Int → Option (Bool)
 | 0, _, _, _ => none
 | k + 1, x0, x1, x5 => if x5 < (x0.length : Int) then (if 0 ≤ x5 then (if (rdOf ByteArray.empty x0 x5).toList = x1.toList then (some true) else (spec_l2Has.l0 k x0 x1 (wrap64 (x5 + 1)))) else (none)) else (some false)
def spec_l2Has.f (k : Nat) (l0 : List ByteArray) (a1 : ByteArray) : Option (Bool) := spec_l2Has.l0 k l0 a1 0
theorem spec_l2Has.mono_l : ∀ k, (∀ y0 y1 y2, LeO (spec_l2Has.l0 k y0 y1 y2) (spec_l2Has.l0 (k + 1) y0 y1 y2))
 | 0 => fun _ _ _ r h => by simp [spec_l2Has.l0] at h
 | k + 1 => by
  have ih0 := spec_l2Has.mono_l k
  ·intro y0 y1 y2; unfold spec_l2Has.l0
   repeat' first
   | (with_reducible exact ih0 _ _ _)
   | exact lm
   | (with_reducible refine LeO.ite ?_ ?_)
   | (with_reducible refine LeO.bind ?_ (fun _ => ?_))
   | exact LeO.none _
theorem spec_l2Has.mono : ∀ a0 a1 k, LeO (spec_l2Has.f k a0 a1) (spec_l2Has.f (k + 1) a0 a1) := by
 intro a0 a1 k; have ih0 := spec_l2Has.mono_l k; unfold spec_l2Has.f
 repeat' first
   | (with_reducible exact ih0 _ _ _)
   | exact lm
   | (with_reducible refine LeO.ite ?_ ?_)
   | (with_reducible refine LeO.bind ?_ (fun _ => ?_))
   | exact LeO.none _
set_option maxHeartbeats 8000000 in
set_option maxRecDepth 100000 in
theorem spec_l2Has.calls (k : Nat) (A0 : Option Addr) (c0 : Nat) (l0 : List ByteArray) (a1 : ByteArray) (r : Bool) (w : World) (hr0 : Kd.C Kd.string w A0 l0.length l0) (hc0 : l0.length ≤ c0) (h : spec_l2Has.f k l0 a1 = some r) :
  Calls Tryd.prog 71 #[.slice A0 l0.length c0, .string a1] w fun e w' => e = .returned (.bool r) ∧ Drawn0 w w' := by
 have HR0 := zA hr0; have HC0 := zA hc0; clear hr0 hc0; have H : (spec_l2Has.l0 k l0 a1 0) = some r := h; clear h; have H' := zA H; clear H; go_enter Tryd.func71, Tryd.ntmps71; go_wp2
 go_loopg [5] k (fun kq v5 w' => ∃ (b9 : Int), v5 = .int .i64 b9 ∧ Aside0 (spec_l2Has.l0 kq l0 a1 b9 = some r) ∧ Aside0 (kq ≤ k) ∧ Drawn0 w w')
 case atStart => exact ⟨(0), apB, H', ⟨yH _⟩, apG⟩
 case round =>
  clear H'; (try clear p2); obtain ⟨b9, rfl, HA, HK1, ⟨m1, rfl⟩⟩ := hrel
  cases gk with
  | zero => exact absurd HA.out (by simp [spec_l2Has.l0])
  | succ k1 =>
   have H := HA.out; clear HA; simp only [spec_l2Has.l0] at H; by_cases c3 : b9 < (l0.length : Int)
   ·rw [if_pos c3] at H; have i2 : decide (b9 < (l0.length : Int)) = true := yD c3; clear c3; by_cases c4 : 0 ≤ b9
    ·rw [if_pos c4] at H; have me : decide (0 ≤ b9) = true := yD c4; clear c4; by_cases c5 : (rdOf ByteArray.empty l0 b9).toList = a1.toList
     ·rw [if_pos c5] at H; have dI : ((rdOf ByteArray.empty l0 b9).toList == a1.toList) = true := beq_iff_eq.mpr c5; have eP : ((rdOf ByteArray.empty l0 b9).toList != a1.toList) = false := bne_eq_false_iff_eq.mpr c5; clear c5; obtain rfl := yF H; have CM : 0 ≤ (b9 : Int) := yE apD; have CN : b9 < (l0.length : Int) := yE apD; obtain ⟨WS, TF, ND⟩ := Kd.at_string HR0.out b9 CM CN; cases TF; replace CM := eq_true CM; replace CN := eq_true CN; go_wp2
      go_ret
      exact ⟨apB, apG⟩
     ·rw [if_neg c5] at H; have dI : ((rdOf ByteArray.empty l0 b9).toList == a1.toList) = false := beq_eq_false_iff_ne.mpr c5; have eP : ((rdOf ByteArray.empty l0 b9).toList != a1.toList) = true := bne_iff_ne.mpr c5; have H' := zA H; clear H; have CM : 0 ≤ (b9 : Int) := yE apD; have CN : b9 < (l0.length : Int) := yE apD; obtain ⟨WS, TF, ND⟩ := Kd.at_string HR0.out b9 CM CN; cases TF; replace CM := eq_true CM; replace CN := eq_true CN; go_wp2
      go_roundg k1
      case measure => have := HK1.out; omega
      case rel => exact ⟨(wrap64 (b9 + 1)), apB, H', ⟨apR⟩, apG⟩
    ·rw [if_neg c4] at H; exact absurd H (by simp)
   ·rw [if_neg c3] at H; have i2 : decide (b9 < (l0.length : Int)) = false := decide_eq_false c3; clear c3; obtain rfl := yF H; go_wp2
    go_ret
    exact ⟨apB, apG⟩


def spec_l2Low.f (a0 : Int) : Option (Bool) := if a0 ≥ 97 then (if a0 ≤ 122 then (some true) else (some (a0 == 95))) else (some (a0 == 95))
set_option maxHeartbeats 8000000 in
set_option maxRecDepth 100000 in
theorem spec_l2Low.calls (a0 : Int) (r : Bool) (w : World) (h : spec_l2Low.f a0 = some r) :
  Calls Tryd.prog 76 #[.int .u8 a0] w fun e w' => e = .returned (.bool r) ∧ Drawn0 w w' := by
 have H : (if a0 ≥ 97 then (if a0 ≤ 122 then (some true) else (some (a0 == 95))) else (some (a0 == 95))) = some r := h; clear h; by_cases c2 : a0 ≥ 97
 ·rw [if_pos c2] at H; have ka : decide (97 ≤ a0) = true := yD c2; clear c2; by_cases c3 : a0 ≤ 122
  ·rw [if_pos c3] at H; have i2 : decide (a0 ≤ 122) = true := yD c3; clear c3; obtain rfl := yF H; go_enter Tryd.func76, Tryd.ntmps76; go_wp2
   go_ret
   exact ⟨apB, apG⟩
  ·rw [if_neg c3] at H; have i2 : decide (a0 ≤ 122) = false := decide_eq_false c3; clear c3; obtain rfl := yF H; go_enter Tryd.func76, Tryd.ntmps76; go_wp2
   go_ret
   exact ⟨apB, apG⟩
 ·rw [if_neg c2] at H; have ka : decide (97 ≤ a0) = false := decide_eq_false c2; clear c2; obtain rfl := yF H; go_enter Tryd.func76, Tryd.ntmps76; go_wp2
  go_ret
  exact ⟨apB, apG⟩


def spec_l2Figure.f (a0 : Int) : Option (Bool) := if a0 ≥ 48 then (some (decide (a0 ≤ 57))) else (some false)
set_option maxHeartbeats 8000000 in
set_option maxRecDepth 100000 in
theorem spec_l2Figure.calls (a0 : Int) (r : Bool) (w : World) (h : spec_l2Figure.f a0 = some r) :
  Calls Tryd.prog 77 #[.int .u8 a0] w fun e w' => e = .returned (.bool r) ∧ Drawn0 w w' := by
 have H : (if a0 ≥ 48 then (some (decide (a0 ≤ 57))) else (some false)) = some r := h; clear h; by_cases c2 : a0 ≥ 48
 ·rw [if_pos c2] at H; have ka : decide (48 ≤ a0) = true := yD c2; clear c2; obtain rfl := yF H; go_enter Tryd.func77, Tryd.ntmps77; go_wp2
  go_ret
  exact ⟨apB, apG⟩
 ·rw [if_neg c2] at H; have ka : decide (48 ≤ a0) = false := decide_eq_false c2; clear c2; obtain rfl := yF H; go_enter Tryd.func77, Tryd.ntmps77; go_wp2
  go_ret
  exact ⟨apB, apG⟩


def spec_l2Letters.l0 : Nat → ByteArray → Int → Option (Bool)
 | 0, _, _ => none
 | k + 1, x0, x3 => if x3 < (x0.size : Int) then (if 0 ≤ x3 then ((spec_l2Low.f (bt x0 x3)).bind fun TG => (if TG = true then (spec_l2Letters.l0 k x0 (wrap64 (x3 + 1))) else (if x3 = 0 then (some false) else ((spec_l2Figure.f (bt x0 x3)).bind fun NE => (if NE = true then (spec_l2Letters.l0 k x0 (wrap64 (x3 + 1))) else (some false)))))) else (none)) else ((spec_l1In.f (x0.size : Int) 1 12).bind fun TH => (some TH))
def spec_l2Letters.f (k : Nat) (a0 : ByteArray) : Option (Bool) := spec_l2Letters.l0 k a0 0
theorem spec_l2Letters.mono_l : ∀ k, (∀ y0 y1, LeO (spec_l2Letters.l0 k y0 y1) (spec_l2Letters.l0 (k + 1) y0 y1))
 | 0 => fun _ _ r h => by simp [spec_l2Letters.l0] at h
 | k + 1 => by
  have ih0 := spec_l2Letters.mono_l k
  ·intro y0 y1; unfold spec_l2Letters.l0
   repeat' first
   | (with_reducible exact ih0 _ _)
   | exact lm
   | (with_reducible refine LeO.ite ?_ ?_)
   | (with_reducible refine LeO.bind ?_ (fun _ => ?_))
   | exact LeO.none _
theorem spec_l2Letters.mono : ∀ a0 k, LeO (spec_l2Letters.f k a0) (spec_l2Letters.f (k + 1) a0) := by
 intro a0 k; have ih0 := spec_l2Letters.mono_l k; unfold spec_l2Letters.f
 repeat' first
   | (with_reducible exact ih0 _ _)
   | exact lm
   | (with_reducible refine LeO.ite ?_ ?_)
   | (with_reducible refine LeO.bind ?_ (fun _ => ?_))
   | exact LeO.none _
set_option maxHeartbeats 8000000 in
set_option maxRecDepth 100000 in
theorem spec_l2Letters.calls (k : Nat) (a0 : ByteArray) (r : Bool) (w : World) (h : spec_l2Letters.f k a0 = some r) :
  Calls Tryd.prog 74 #[.string a0] w fun e w' => e = .returned (.bool r) ∧ Drawn0 w w' := by
 have H : (spec_l2Letters.l0 k a0 0) = some r := h; clear h; have H' := zA H; clear H; go_enter Tryd.func74, Tryd.ntmps74; go_wp2
 go_loopg [3] k (fun kq v3 w' => ∃ (bo : Int), v3 = .int .i64 bo ∧ Aside0 (spec_l2Letters.l0 kq a0 bo = some r) ∧ Aside0 (kq ≤ k) ∧ Drawn0 w w')
 case atStart => exact ⟨(0), apB, H', ⟨yH _⟩, apG⟩
 case round =>
  clear H'; obtain ⟨bo, rfl, HA, HK1, ⟨m1, rfl⟩⟩ := hrel
  cases gk with
  | zero => exact absurd HA.out (by simp [spec_l2Letters.l0])
  | succ k1 =>
   have H := HA.out; clear HA; simp only [spec_l2Letters.l0] at H; by_cases c2 : bo < (a0.size : Int)
   ·rw [if_pos c2] at H; have ka : decide (bo < (a0.size : Int)) = true := yD c2; clear c2; by_cases c3 : 0 ≤ bo
    ·rw [if_pos c3] at H; have i2 : decide (0 ≤ bo) = true := yD c3; clear c3; replace H := Option.bind_eq_some_iff.mp H; obtain ⟨TG, A50, H⟩ := H; have A5 := zA A50; clear A50; by_cases c6 : TG = true
     ·subst c6; have H1 := H; rw [if_pos rfl] at H1; clear H; have H := H1; clear H1; have H' := zA H; clear H; have p4 : 0 ≤ (bo : Int) := yE apD; have q4 : bo < (a0.size : Int) := yE apD; have hx4 := bt_at a0 bo; replace p4 := eq_true p4; replace q4 := eq_true q4; go_wp2_with (first | ((with_reducible refine zV (f := 76) rfl ?_); refine goesL_ (some 13) rfl rfl Tryd.func76 (by kernel_rfl) rfl #[.int .u8 (bt a0 bo)] rfl apC ?_; (with_reducible refine (spec_l2Low.calls (bt a0 bo) true _ A5.out).mono ?_); rintro e w' ⟨rfl, ⟨nd, rfl⟩⟩; refine ⟨_, rfl, ?_⟩))
      go_roundg k1
      case measure => have := HK1.out; omega
      case rel => exact ⟨(wrap64 (bo + 1)), apB, H', ⟨apR⟩, apG⟩
     ·replace c6 := Bool.eq_false_iff.mpr c6; subst c6; have H1 := H; rw [if_neg (show ¬ (false = true) by decide)] at H1; clear H; have H := H1; clear H1; by_cases c7 : bo = 0
      ·rw [if_pos c7] at H; have kb : (bo == 0) = true := beq_iff_eq.mpr c7; have lZ : (bo != 0) = false := bne_eq_false_iff_eq.mpr c7; clear c7; obtain rfl := yF H; have p4 : 0 ≤ (bo : Int) := yE apD; have q4 : bo < (a0.size : Int) := yE apD; have hx4 := bt_at a0 bo; replace p4 := eq_true p4; replace q4 := eq_true q4; go_wp2_with (first | ((with_reducible refine zV (f := 76) rfl ?_); refine goesL_ (some 13) rfl rfl Tryd.func76 (by kernel_rfl) rfl #[.int .u8 (bt a0 bo)] rfl apC ?_; (with_reducible refine (spec_l2Low.calls (bt a0 bo) false _ A5.out).mono ?_); rintro e w' ⟨rfl, ⟨nd, rfl⟩⟩; refine ⟨_, rfl, ?_⟩))
       go_ret
       exact ⟨apB, apG⟩
      ·rw [if_neg c7] at H; have kb : (bo == 0) = false := beq_eq_false_iff_ne.mpr c7; have lZ : (bo != 0) = true := bne_iff_ne.mpr c7; replace H := Option.bind_eq_some_iff.mp H; obtain ⟨NE, A90, H⟩ := H; have A9 := zA A90; clear A90; have BF := zA H; clear H; have p4 : 0 ≤ (bo : Int) := yE apD; have q4 : bo < (a0.size : Int) := yE apD; have hx4 := bt_at a0 bo; replace p4 := eq_true p4; replace q4 := eq_true q4; go_upto_if 25 with (first | ((with_reducible refine zV (f := 76) rfl ?_); refine goesL_ (some 13) rfl rfl Tryd.func76 (by kernel_rfl) rfl #[.int .u8 (bt a0 bo)] rfl apC ?_; (with_reducible refine (spec_l2Low.calls (bt a0 bo) false _ A5.out).mono ?_); rintro e w' ⟨rfl, ⟨nd, rfl⟩⟩; refine ⟨_, rfl, ?_⟩; have p8 : 0 ≤ (bo : Int) := yE apD; have q8 : bo < (a0.size : Int) := yE apD; have hx8 := bt_at a0 bo; replace p8 := eq_true p8; replace q8 := eq_true q8) | (go_at_call 77; (with_reducible refine (spec_l2Figure.calls (bt a0 bo) NE _ A9.out).mono ?_); rintro e w' ⟨rfl, ⟨nd, rfl⟩⟩))
       (try simp only [Act.put, zL, zM, zN])
       have H := BF.out; clear BF; by_cases c11 : NE = true
       ·subst c11; have H1 := H; rw [if_pos rfl] at H1; clear H; have H := H1; clear H1; have H' := zA H; clear H; go_wp2
        go_roundg k1
        case measure => have := HK1.out; omega
        case rel => exact ⟨(wrap64 (bo + 1)), apB, H', ⟨apR⟩, apG⟩
       ·replace c11 := Bool.eq_false_iff.mpr c11; subst c11; have H1 := H; rw [if_neg (show ¬ (false = true) by decide)] at H1; clear H; have H := H1; clear H1; obtain rfl := yF H; go_wp2
        go_ret
        exact ⟨apB, apG⟩
    ·rw [if_neg c3] at H; exact absurd H (by simp)
   ·rw [if_neg c2] at H; have ka : decide (bo < (a0.size : Int)) = false := decide_eq_false c2; clear c2; replace H := Option.bind_eq_some_iff.mp H; obtain ⟨TH, BE, H⟩ := H; have A12 := zA BE; clear BE; obtain rfl := yF H; go_wp2_with (first | ((with_reducible refine zV (f := 66) rfl ?_); refine goesL_ (some 28) rfl rfl Tryd.func66 (by kernel_rfl) rfl #[.int .i64 (a0.size : Int), .int .i64 1, .int .i64 12] rfl apC ?_; (with_reducible refine (spec_l1In.calls (a0.size : Int) 1 12 TH _ A12.out).mono ?_); rintro e w' ⟨rfl, ⟨nd, rfl⟩⟩; refine ⟨_, rfl, ?_⟩))
    go_ret
    exact ⟨apB, apG⟩


def spec_l2Words.f  : Option (List ByteArray) := some (([(⟨#[110, 117, 108, 108]⟩ : ByteArray), (⟨#[116, 114, 117, 101]⟩ : ByteArray), (⟨#[102, 97, 108, 115, 101]⟩ : ByteArray), (⟨#[105, 102]⟩ : ByteArray), (⟨#[116, 104, 101, 110]⟩ : ByteArray), (⟨#[101, 108, 115, 101]⟩ : ByteArray), (⟨#[108, 111, 99, 97, 108]⟩ : ByteArray), (⟨#[102, 117, 110, 99, 116, 105, 111, 110]⟩ : ByteArray), (⟨#[115, 101, 108, 102]⟩ : ByteArray), (⟨#[115, 117, 112, 101, 114]⟩ : ByteArray), (⟨#[101, 114, 114, 111, 114]⟩ : ByteArray), (⟨#[105, 109, 112, 111, 114, 116]⟩ : ByteArray), (⟨#[102, 111, 114]⟩ : ByteArray), (⟨#[105, 110]⟩ : ByteArray), (⟨#[115, 116, 100]⟩ : ByteArray)] : List ByteArray))
set_option maxHeartbeats 8000000 in
set_option maxRecDepth 100000 in
theorem spec_l2Words.calls  (r : List ByteArray) (w : World) (h : spec_l2Words.f  = some r) :
  Calls Tryd.prog 75 #[] w fun e w' => ∃ v0_ : Value, e = .returned (v0_) ∧ Kd.R Kd.string 9 w' w.heap.size (fun _ => True) v0_ r ∧ Below w.heap.size w w' := by
 have HB := zA (yG w.heap.size w); have H : (some (([(⟨#[110, 117, 108, 108]⟩ : ByteArray), (⟨#[116, 114, 117, 101]⟩ : ByteArray), (⟨#[102, 97, 108, 115, 101]⟩ : ByteArray), (⟨#[105, 102]⟩ : ByteArray), (⟨#[116, 104, 101, 110]⟩ : ByteArray), (⟨#[101, 108, 115, 101]⟩ : ByteArray), (⟨#[108, 111, 99, 97, 108]⟩ : ByteArray), (⟨#[102, 117, 110, 99, 116, 105, 111, 110]⟩ : ByteArray), (⟨#[115, 101, 108, 102]⟩ : ByteArray), (⟨#[115, 117, 112, 101, 114]⟩ : ByteArray), (⟨#[101, 114, 114, 111, 114]⟩ : ByteArray), (⟨#[105, 109, 112, 111, 114, 116]⟩ : ByteArray), (⟨#[102, 111, 114]⟩ : ByteArray), (⟨#[105, 110]⟩ : ByteArray), (⟨#[115, 116, 100]⟩ : ByteArray)] : List ByteArray))) = some r := h; clear h; obtain ⟨y535, BG⟩ : ∃ y_ : List ByteArray, y_ = (([(⟨#[110, 117, 108, 108]⟩ : ByteArray), (⟨#[116, 114, 117, 101]⟩ : ByteArray), (⟨#[102, 97, 108, 115, 101]⟩ : ByteArray), (⟨#[105, 102]⟩ : ByteArray), (⟨#[116, 104, 101, 110]⟩ : ByteArray), (⟨#[101, 108, 115, 101]⟩ : ByteArray), (⟨#[108, 111, 99, 97, 108]⟩ : ByteArray), (⟨#[102, 117, 110, 99, 116, 105, 111, 110]⟩ : ByteArray), (⟨#[115, 101, 108, 102]⟩ : ByteArray), (⟨#[115, 117, 112, 101, 114]⟩ : ByteArray), (⟨#[101, 114, 114, 111, 114]⟩ : ByteArray), (⟨#[105, 109, 112, 111, 114, 116]⟩ : ByteArray), (⟨#[102, 111, 114]⟩ : ByteArray), (⟨#[105, 110]⟩ : ByteArray), (⟨#[115, 116, 100]⟩ : ByteArray)] : List ByteArray)) := ⟨_, rfl⟩
 replace H : (some y535) = some r := by first | (rw [BG]; with_reducible exact H) | (have H2_ := (Option.bind_some _ _).symm.trans H; rw [BG]; with_reducible exact H2_) | (have H2_ := (Option.bind_some _ _).symm.trans H; with_reducible exact H2_) | with_reducible exact H | (rw [BG]; exact H) | exact H
 have Rl := zA BG; clear BG; obtain rfl := yF H; go_enter Tryd.func75, Tryd.ntmps75; go_wp2_with (first | ((with_reducible refine zT (N := 1) rfl ?_); refine Kd.R_lit Kd.string _ 9 ?hg (N := 1) ?hd (xs := ([(⟨#[110, 117, 108, 108]⟩ : ByteArray), (⟨#[116, 114, 117, 101]⟩ : ByteArray), (⟨#[102, 97, 108, 115, 101]⟩ : ByteArray), (⟨#[105, 102]⟩ : ByteArray), (⟨#[116, 104, 101, 110]⟩ : ByteArray), (⟨#[101, 108, 115, 101]⟩ : ByteArray), (⟨#[108, 111, 99, 97, 108]⟩ : ByteArray), (⟨#[102, 117, 110, 99, 116, 105, 111, 110]⟩ : ByteArray), (⟨#[115, 101, 108, 102]⟩ : ByteArray), (⟨#[115, 117, 112, 101, 114]⟩ : ByteArray), (⟨#[101, 114, 114, 111, 114]⟩ : ByteArray), (⟨#[105, 109, 112, 111, 114, 116]⟩ : ByteArray), (⟨#[102, 111, 114]⟩ : ByteArray), (⟨#[105, 110]⟩ : ByteArray), (⟨#[115, 116, 100]⟩ : ByteArray)] : List ByteArray)) (inner := [.string (⟨#[110, 117, 108, 108]⟩ : ByteArray), .string (⟨#[116, 114, 117, 101]⟩ : ByteArray), .string (⟨#[102, 97, 108, 115, 101]⟩ : ByteArray), .string (⟨#[105, 102]⟩ : ByteArray), .string (⟨#[116, 104, 101, 110]⟩ : ByteArray), .string (⟨#[101, 108, 115, 101]⟩ : ByteArray), .string (⟨#[108, 111, 99, 97, 108]⟩ : ByteArray), .string (⟨#[102, 117, 110, 99, 116, 105, 111, 110]⟩ : ByteArray), .string (⟨#[115, 101, 108, 102]⟩ : ByteArray), .string (⟨#[115, 117, 112, 101, 114]⟩ : ByteArray), .string (⟨#[101, 114, 114, 111, 114]⟩ : ByteArray), .string (⟨#[105, 109, 112, 111, 114, 116]⟩ : ByteArray), .string (⟨#[102, 111, 114]⟩ : ByteArray), .string (⟨#[105, 110]⟩ : ByteArray), .string (⟨#[115, 116, 100]⟩ : ByteArray)]) (ok := fun _ => True) (okp := fun _ => True) ?hr ?hp (fun _ hk => hk) trivial (yG _ _) (yH _) (by simp) ?_; (case hd => rfl); (case hg => rfl); (case hr => first | (go_simp; done) | (go_simp; rfl)); (case hp => exact (Reps.one (show Kd.M Kd.string _ _ _ (⟨#[110, 117, 108, 108]⟩ : ByteArray) [.string (⟨#[110, 117, 108, 108]⟩ : ByteArray)] from rfl) (Reps.one (show Kd.M Kd.string _ _ _ (⟨#[116, 114, 117, 101]⟩ : ByteArray) [.string (⟨#[116, 114, 117, 101]⟩ : ByteArray)] from rfl) (Reps.one (show Kd.M Kd.string _ _ _ (⟨#[102, 97, 108, 115, 101]⟩ : ByteArray) [.string (⟨#[102, 97, 108, 115, 101]⟩ : ByteArray)] from rfl) (Reps.one (show Kd.M Kd.string _ _ _ (⟨#[105, 102]⟩ : ByteArray) [.string (⟨#[105, 102]⟩ : ByteArray)] from rfl) (Reps.one (show Kd.M Kd.string _ _ _ (⟨#[116, 104, 101, 110]⟩ : ByteArray) [.string (⟨#[116, 104, 101, 110]⟩ : ByteArray)] from rfl) (Reps.one (show Kd.M Kd.string _ _ _ (⟨#[101, 108, 115, 101]⟩ : ByteArray) [.string (⟨#[101, 108, 115, 101]⟩ : ByteArray)] from rfl) (Reps.one (show Kd.M Kd.string _ _ _ (⟨#[108, 111, 99, 97, 108]⟩ : ByteArray) [.string (⟨#[108, 111, 99, 97, 108]⟩ : ByteArray)] from rfl) (Reps.one (show Kd.M Kd.string _ _ _ (⟨#[102, 117, 110, 99, 116, 105, 111, 110]⟩ : ByteArray) [.string (⟨#[102, 117, 110, 99, 116, 105, 111, 110]⟩ : ByteArray)] from rfl) (Reps.one (show Kd.M Kd.string _ _ _ (⟨#[115, 101, 108, 102]⟩ : ByteArray) [.string (⟨#[115, 101, 108, 102]⟩ : ByteArray)] from rfl) (Reps.one (show Kd.M Kd.string _ _ _ (⟨#[115, 117, 112, 101, 114]⟩ : ByteArray) [.string (⟨#[115, 117, 112, 101, 114]⟩ : ByteArray)] from rfl) (Reps.one (show Kd.M Kd.string _ _ _ (⟨#[101, 114, 114, 111, 114]⟩ : ByteArray) [.string (⟨#[101, 114, 114, 111, 114]⟩ : ByteArray)] from rfl) (Reps.one (show Kd.M Kd.string _ _ _ (⟨#[105, 109, 112, 111, 114, 116]⟩ : ByteArray) [.string (⟨#[105, 109, 112, 111, 114, 116]⟩ : ByteArray)] from rfl) (Reps.one (show Kd.M Kd.string _ _ _ (⟨#[102, 111, 114]⟩ : ByteArray) [.string (⟨#[102, 111, 114]⟩ : ByteArray)] from rfl) (Reps.one (show Kd.M Kd.string _ _ _ (⟨#[105, 110]⟩ : ByteArray) [.string (⟨#[105, 110]⟩ : ByteArray)] from rfl) (Reps.one (show Kd.M Kd.string _ _ _ (⟨#[115, 116, 100]⟩ : ByteArray) [.string (⟨#[115, 116, 100]⟩ : ByteArray)] from rfl) (Reps.none _ _))))))))))))))))); intro v536 w1 ho2 hb hg_ hnew_; clear hg_ hnew_; (first | rw [← Rl.out] at ho2 | (simp only [Int.reduceToNat] at ho2; rw [← Rl.out] at ho2)); have WT := zA (Kd.R_lower ho2 (zR apA)); replace HB := zA (zQ apA hb); clear hb ho2))
 go_ret
 exact ⟨_, apE, vwR WT.out, apA⟩


def spec_NameOk.f (k : Nat) (a0 : ByteArray) : Option (Bool) := (spec_l2Letters.f k a0).bind fun Kh => (if Kh = true then ((spec_l2Words.f).bind fun JG => ((spec_l2Has.f k JG a0).bind fun Ki => (some (!Ki)))) else (some false))
theorem spec_NameOk.mono : ∀ a0 k, LeO (spec_NameOk.f k a0) (spec_NameOk.f (k + 1) a0) := by
 intro a0 k; unfold spec_NameOk.f
 repeat' first
   | (with_reducible exact spec_l2Has.mono _ _ _)
   | (with_reducible exact spec_l2Letters.mono _ _)
   | exact lm
   | (with_reducible refine LeO.ite ?_ ?_)
   | (with_reducible refine LeO.bind ?_ (fun _ => ?_))
   | exact LeO.none _
set_option maxHeartbeats 8000000 in
set_option maxRecDepth 100000 in
theorem spec_NameOk.calls (k : Nat) (a0 : ByteArray) (r : Bool) (w : World) (h : spec_NameOk.f k a0 = some r) :
  Calls Tryd.prog 67 #[.string a0] w fun e w' => e = .returned (.bool r) ∧ Below w.heap.size w w' := by
 have HB := zA (yG w.heap.size w); have H : ((spec_l2Letters.f k a0).bind fun Kh => (if Kh = true then ((spec_l2Words.f).bind fun JG => ((spec_l2Has.f k JG a0).bind fun Ki => (some (!Ki)))) else (some false))) = some r := h; clear h; replace H := Option.bind_eq_some_iff.mp H; obtain ⟨Kh, A20, H⟩ := H; have A2 := zA A20; clear A20; by_cases c3 : Kh = true
 ·subst c3; have H1 := H; rw [if_pos rfl] at H1; clear H; have H := H1; clear H1; replace H := Option.bind_eq_some_iff.mp H; obtain ⟨JG, A40, H⟩ := H; have A4 := zA A40; clear A40; replace H := Option.bind_eq_some_iff.mp H; obtain ⟨Ki, A50, H⟩ := H; have A5 := zA A50; clear A50; obtain rfl := yF H; go_enter Tryd.func67, Tryd.ntmps67; go_wp2_with (first | ((with_reducible refine zV (f := 74) rfl ?_); refine goesL_ (some 4) rfl rfl Tryd.func74 (by kernel_rfl) rfl #[.string a0] rfl apC ?_; (with_reducible refine (spec_l2Letters.calls k a0 true _ A2.out).mono ?_); rintro e w' ⟨rfl, ⟨nd, rfl⟩⟩; refine ⟨_, rfl, ?_⟩) | (go_at_call 75; (with_reducible refine (spec_l2Words.calls  JG _ A4.out).mono ?_); rintro e w6 ⟨v540, rfl, ho0, hb⟩; have Kj := zA (Kd.R_lower ho0 (zR apA)); replace HB := zA (zQ apA hb); (try clear hb hk hi); (try clear ho0); obtain ⟨Ao7, co7, eo7⟩ := Kd.R_slice Kj.out; subst eo7) | (go_at_call 71; (with_reducible refine (spec_l2Has.calls k _ _ JG a0 Ki _ ?side1 ?side2 A5.out).mono ?_); (case side1 => exact vc (Kd.R_reads' Kj.out).2.2); (case side2 => exact (Kd.R_reads' Kj.out).2.1); rintro e w' ⟨rfl, ⟨nd, rfl⟩⟩))
  go_ret
  exact ⟨apE, apA⟩
 ·replace c3 := Bool.eq_false_iff.mpr c3; subst c3; have H1 := H; rw [if_neg (show ¬ (false = true) by decide)] at H1; clear H; have H := H1; clear H1; obtain rfl := yF H; go_enter Tryd.func67, Tryd.ntmps67; go_wp2_with (first | ((with_reducible refine zV (f := 74) rfl ?_); refine goesL_ (some 4) rfl rfl Tryd.func74 (by kernel_rfl) rfl #[.string a0] rfl apC ?_; (with_reducible refine (spec_l2Letters.calls k a0 false _ A2.out).mono ?_); rintro e w' ⟨rfl, ⟨nd, rfl⟩⟩; refine ⟨_, rfl, ?_⟩))
  go_ret
  exact ⟨apE, apA⟩


mutual
def impl_ValueSize.l0 : Nat → Int → List (S33) → Int → Int → Option (Int)
 | 0, _, _, _, _ => none
 | k + 1, x3, x7, x8, x9 => if x9 < x8 then (if 0 ≤ x9 then (if x9 < (x7.length : Int) then ((impl_ValueSize.f k ((rd_T33 x7 x9).f0) ((rd_T33 x7 x9).f1.f0) ((rd_T33 x7 x9).f1.f1) ((rd_T33 x7 x9).f2) ((rd_T33 x7 x9).f3) ((rd_T33 x7 x9).f4)).bind fun NF => (impl_ValueSize.l0 k (wrap64 (x3 + NF)) x7 x8 (wrap64 (x9 + 1)))) else (none)) else (none)) else (some x3)
def impl_ValueSize.f : Nat → Int → Int → Int → ByteArray → List (S33) → List ByteArray → Option (Int)
 | 0, _, _, _, _, _, _ => none
 | k + 1, aa, ae, ah, ai, ac, ab => impl_ValueSize.l0 k 1 ac (ac.length : Int) 0
end
theorem impl_ValueSize.mono_l : ∀ k, (∀ y0 y1 y2 y3 y4 y5, LeO (impl_ValueSize.f k y0 y1 y2 y3 y4 y5) (impl_ValueSize.f (k + 1) y0 y1 y2 y3 y4 y5)) ∧ (∀ y0 y1 y2 y3, LeO (impl_ValueSize.l0 k y0 y1 y2 y3) (impl_ValueSize.l0 (k + 1) y0 y1 y2 y3))
 | 0 => ⟨fun _ _ _ _ _ _ r h => by simp [impl_ValueSize.f] at h, fun _ _ _ _ r h => by simp [impl_ValueSize.l0] at h⟩
 | k + 1 => by
  obtain ⟨ih0, ih1⟩ := impl_ValueSize.mono_l k; refine ⟨?_, ?_⟩
  ·intro y0 y1 y2 y3 y4 y5; unfold impl_ValueSize.f
   repeat' first
   | (with_reducible exact ih0 _ _ _ _ _ _)
   | (with_reducible exact ih1 _ _ _ _)
   | exact lm
   | (with_reducible refine LeO.ite ?_ ?_)
   | (with_reducible refine LeO.bind ?_ (fun _ => ?_))
   | exact LeO.none _
  ·intro y0 y1 y2 y3; unfold impl_ValueSize.l0
   repeat' first
   | (with_reducible exact ih0 _ _ _ _ _ _)
   | (with_reducible exact ih1 _ _ _ _)
   | exact lm
   | (with_reducible refine LeO.ite ?_ ?_)
   | (with_reducible refine LeO.bind ?_ (fun _ => ?_))
   | exact LeO.none _
theorem impl_ValueSize.mono : ∀ a0 a1 a2 a3 a4 a5 k, LeO (impl_ValueSize.f k a0 a1 a2 a3 a4 a5) (impl_ValueSize.f (k + 1) a0 a1 a2 a3 a4 a5) := by
 intro a0 a1 a2 a3 a4 a5 k; obtain ⟨ih0, ih1⟩ := impl_ValueSize.mono_l k; exact ih0 a0 a1 a2 a3 a4 a5
set_option maxHeartbeats 8000000 in
set_option maxRecDepth 100000 in
theorem impl_ValueSize.calls (k : Nat) : ∀ (aa : Int) (ae : Int) (ah : Int) (ai : ByteArray) (bc : Option Addr) (aZ : Nat) (ac : List (S33)) (bO : Option Addr) (bI : Nat) (ab : List ByteArray) (r : Int) (w : World) (cK : Kd.C k33 w bc ac.length ac) (cM : ac.length ≤ aZ) (cN : Kd.C Kd.string w bO ab.length ab) (cO : ab.length ≤ bI) (h : impl_ValueSize.f k aa ae ah ai ac ab = some r),
  Calls Tryd.prog 12 #[.agg #[.int .i64 aa, .int .i64 ae, .int .i64 ah, .string ai, .slice bc ac.length aZ, .slice bO ab.length bI]] w fun e w' => e = .returned (.int .i64 r) ∧ Below w.heap.size w w' := by
 induction k using Nat.strongRecOn with
 | _ k ih =>
 intro aa ae ah ai bc aZ ac bO bI ab r w cK cM cN cO h
 cases k with
 | zero => exact absurd h (by simp [impl_ValueSize.f])
 | succ k =>
 simp only [impl_ValueSize.f] at h; have m0 := Tryd.underlying33; have dx := zA cK; have eg := zA cM; clear cK cM; have di := zA cN; have em := zA cO; clear cN cO; have HB := zA (yG w.heap.size w); have H : (impl_ValueSize.l0 k 1 ac (ac.length : Int) 0) = some r := h; clear h; have H' := zA H; clear H; go_enter Tryd.func12, Tryd.ntmps12; go_wp2_with (first | ((with_reducible refine zT (N := 1) rfl ?_); refine zW (by rfl) (N := 1) (by rfl) (cs := #[.int .i64 aa, .int .i64 ae, .int .i64 ah, .string ai, .slice bc ac.length aZ, .slice bO ab.length bI]) (t := 33) apF ?_; intro gb477 hg w2 hbox hb; have WU := zA (hbox); have GW477 := zA (gwl hg (zR apA)); have WV := zA (gwl hg (zR apA)); replace HB := zA (zQ apA hb); clear hb hbox hg; obtain ⟨_, _, _, _, _, _, _, _, _, _, _, _⟩ := zb6 WU.out))
 go_loopg [3, 9] k (fun kq v3 v9 w' => ∃ (bo : Int) (f6 : Int), v3 = .int .i64 bo ∧ v9 = .int .i64 f6 ∧ Aside0 (impl_ValueSize.l0 kq bo ac (ac.length : Int) f6 = some r) ∧ Aside0 (kq ≤ k) ∧ Aside0 (Below w.heap.size w w'))
 case atStart => exact ⟨(1), (0), apB, apB, H', ⟨yH _⟩, ⟨by repeat (first | (with_reducible first | exact HB.out | apply zG | apply zE | apply zF | refine zH ?_ WV.out) | exact HB.out)⟩⟩
 case round =>
  clear H'; (try clear c1 p2 hcz3_0 hcz3_1 hcz3_2 hcz3_3 hcz3_4 hcz3_5 hfz3_0 hfz3_1 hfz3_2 hfz3_3 hfz3_4 hfz3_5); obtain ⟨bo, f6, rfl, rfl, HA, HK1, HB⟩ := hrel
  cases gk with
  | zero => exact absurd HA.out (by simp [impl_ValueSize.l0])
  | succ k1 =>
   have H := HA.out; clear HA; simp only [impl_ValueSize.l0] at H; by_cases c4 : f6 < (ac.length : Int)
   ·rw [if_pos c4] at H; have me : decide (f6 < (ac.length : Int)) = true := yD c4; clear c4; by_cases c5 : 0 ≤ f6
    ·rw [if_pos c5] at H; have dI : decide (0 ≤ f6) = true := yD c5; clear c5; by_cases c6 : f6 < (ac.length : Int)
     ·rw [if_pos c6] at H; have oC : decide (f6 < (ac.length : Int)) = true := yD c6; clear c6; replace H := Option.bind_eq_some_iff.mp H; obtain ⟨NF, A70, H⟩ := H; have A7 := zA A70; clear A70; have H' := zA H; clear H; have TI : 0 ≤ (f6 : Int) := yE apD; have TJ : f6 < (ac.length : Int) := yE apD; obtain ⟨ad478, Kk, Kl, Km, Kn, e478, xM, xN, xO, xP, xQ, xR, Dj, Dk, Dl, Dm⟩ := at_T33 dx.out f6 TI TJ; cases e478; replace xM := (HB.out.cell (zS w _ xM)).trans xM; replace xN := (HB.out.cell (zS w _ xN)).trans xN; replace xO := (HB.out.cell (zS w _ xO)).trans xO; replace xP := (HB.out.cell (zS w _ xP)).trans xP; replace xQ := (HB.out.cell (zS w _ xQ)).trans xQ; replace xR := (HB.out.cell (zS w _ xR)).trans xR; have NG := zA Dk; have NH := zA Dj; clear Dk Dj; have NI := zA Dm; have NJ := zA Dl; clear Dm Dl; replace TI := eq_true TI; replace TJ := eq_true TJ; go_wp2_with (first | ((with_reducible refine zT (N := 5) rfl ?_); refine zW (by rfl) (N := 5) (by rfl) (cs := #[.int .i64 0, .int .i64 0, .int .i64 0, .string (⟨#[]⟩ : ByteArray), .slice none 0 0, .slice none 0 0]) (t := 33) apF ?_; intro WW hg w8 hbox hb; have Ko := zA (hbox); have GW479 := zA (gwl hg (zR apA)); have Dn := zA (gwl hg (zR apA)); replace HB := zA (zQ apA hb); clear hb hbox hg; obtain ⟨_, _, _, _, _, _, _, _, _, _, _, _⟩ := zb6 Ko.out) | ((with_reducible refine zV (f := 12) rfl ?_); refine goesL_ (some 15) rfl rfl Tryd.func12 (by kernel_rfl) rfl #[.agg #[.int .i64 ((rd_T33 ac f6).f0), .int .i64 ((rd_T33 ac f6).f1.f0), .int .i64 ((rd_T33 ac f6).f1.f1), .string ((rd_T33 ac f6).f2), .slice Kk ((rd_T33 ac f6).f3).length Kl, .slice Km ((rd_T33 ac f6).f4).length Kn]] rfl apC ?_; (with_reducible refine (ih k1 apR ((rd_T33 ac f6).f0) ((rd_T33 ac f6).f1.f0) ((rd_T33 ac f6).f1.f1) ((rd_T33 ac f6).f2) _ _ ((rd_T33 ac f6).f3) _ _ ((rd_T33 ac f6).f4) NF _ ?side1 ?side2 ?side3 ?side4 A7.out).mono ?_); (case side1 => exact Kd.C_below NG.out apBB); (case side2 => exact NH.out); (case side3 => exact Kd.C_below NI.out apBB); (case side4 => exact NJ.out); rintro e w10 ⟨rfl, hb⟩; refine ⟨_, rfl, ?_⟩; replace Ko := zA (zP (g := WW) (o := .cells #[.int .i64 ((rd_T33 ac f6).f0), .int .i64 ((rd_T33 ac f6).f1.f0), .int .i64 ((rd_T33 ac f6).f1.f1), .string ((rd_T33 ac f6).f2), .slice Kk ((rd_T33 ac f6).f3).length Kl, .slice Km ((rd_T33 ac f6).f4).length Kn] 33 (0, 0)) (by (with_reducible repeat (first | apply zB | apply zD | apply zC)); apply put6; (with_reducible repeat (first | apply zB | apply zD | apply zC)); exact Ko.out) hb); replace HB := zA (zQ apBB hb); (try clear hb hk hi)))
      go_roundg k1
      case measure => have := HK1.out; omega
      case rel => exact ⟨(wrap64 (bo + NF)), (wrap64 (f6 + 1)), apB, apB, H', ⟨apR⟩, ⟨apBB⟩⟩
     ·rw [if_neg c6] at H; exact absurd H (by simp)
    ·rw [if_neg c5] at H; exact absurd H (by simp)
   ·rw [if_neg c4] at H; have me : decide (f6 < (ac.length : Int)) = false := decide_eq_false c4; clear c4; obtain rfl := yF H; go_wp2
    go_ret
    exact ⟨apE, apA⟩


mutual
def spec_ValueSize.l0 : Nat → Int → Int → Int → Int → Int → ByteArray → List (S33) → List ByteArray → Option (Int)
 | 0, _, _, _, _, _, _, _, _ => none
 | k + 1, x3, x4, NK, NL, NM, NN, lB, NO => if x4 < (lB.length : Int) then (if 0 ≤ x4 then ((spec_ValueSize.f k ((rd_T33 lB x4).f0) ((rd_T33 lB x4).f1.f0) ((rd_T33 lB x4).f1.f1) ((rd_T33 lB x4).f2) ((rd_T33 lB x4).f3) ((rd_T33 lB x4).f4)).bind fun NP => (spec_ValueSize.l0 k (wrap64 (x3 + NP)) (wrap64 (x4 + 1)) NK NL NM NN lB NO)) else (none)) else (some x3)
def spec_ValueSize.f : Nat → Int → Int → Int → ByteArray → List (S33) → List ByteArray → Option (Int)
 | 0, _, _, _, _, _, _ => none
 | k + 1, aa, ae, ah, ai, ac, ab => spec_ValueSize.l0 k 1 0 aa ae ah ai ac ab
end
theorem spec_ValueSize.mono_l : ∀ k, (∀ y0 y1 y2 y3 y4 y5, LeO (spec_ValueSize.f k y0 y1 y2 y3 y4 y5) (spec_ValueSize.f (k + 1) y0 y1 y2 y3 y4 y5)) ∧ (∀ y0 y1 y2 y3 y4 y5 y6 y7, LeO (spec_ValueSize.l0 k y0 y1 y2 y3 y4 y5 y6 y7) (spec_ValueSize.l0 (k + 1) y0 y1 y2 y3 y4 y5 y6 y7))
 | 0 => ⟨fun _ _ _ _ _ _ r h => by simp [spec_ValueSize.f] at h, fun _ _ _ _ _ _ _ _ r h => by simp [spec_ValueSize.l0] at h⟩
 | k + 1 => by
  obtain ⟨ih0, ih1⟩ := spec_ValueSize.mono_l k; refine ⟨?_, ?_⟩
  ·intro y0 y1 y2 y3 y4 y5; unfold spec_ValueSize.f
   repeat' first
   | (with_reducible exact ih0 _ _ _ _ _ _)
   | (with_reducible exact ih1 _ _ _ _ _ _ _ _)
   | exact lm
   | (with_reducible refine LeO.ite ?_ ?_)
   | (with_reducible refine LeO.bind ?_ (fun _ => ?_))
   | exact LeO.none _
  ·intro y0 y1 y2 y3 y4 y5 y6 y7; unfold spec_ValueSize.l0
   repeat' first
   | (with_reducible exact ih0 _ _ _ _ _ _)
   | (with_reducible exact ih1 _ _ _ _ _ _ _ _)
   | exact lm
   | (with_reducible refine LeO.ite ?_ ?_)
   | (with_reducible refine LeO.bind ?_ (fun _ => ?_))
   | exact LeO.none _
theorem spec_ValueSize.mono : ∀ a0 a1 a2 a3 a4 a5 k, LeO (spec_ValueSize.f k a0 a1 a2 a3 a4 a5) (spec_ValueSize.f (k + 1) a0 a1 a2 a3 a4 a5) := by
 intro a0 a1 a2 a3 a4 a5 k; obtain ⟨ih0, ih1⟩ := spec_ValueSize.mono_l k; exact ih0 a0 a1 a2 a3 a4 a5
set_option maxHeartbeats 8000000 in
set_option maxRecDepth 100000 in
theorem spec_ValueSize.calls (k : Nat) : ∀ (aa : Int) (ae : Int) (ah : Int) (ai : ByteArray) (bc : Option Addr) (aZ : Nat) (ac : List (S33)) (bO : Option Addr) (bI : Nat) (ab : List ByteArray) (r : Int) (w : World) (cK : Kd.C k33 w bc ac.length ac) (cM : ac.length ≤ aZ) (cN : Kd.C Kd.string w bO ab.length ab) (cO : ab.length ≤ bI) (h : spec_ValueSize.f k aa ae ah ai ac ab = some r),
  Calls Tryd.prog 13 #[.agg #[.int .i64 aa, .int .i64 ae, .int .i64 ah, .string ai, .slice bc ac.length aZ, .slice bO ab.length bI]] w fun e w' => e = .returned (.int .i64 r) ∧ Below w.heap.size w w' := by
 induction k using Nat.strongRecOn with
 | _ k ih =>
 intro aa ae ah ai bc aZ ac bO bI ab r w cK cM cN cO h
 cases k with
 | zero => exact absurd h (by simp [spec_ValueSize.f])
 | succ k =>
 simp only [spec_ValueSize.f] at h; have m0 := Tryd.underlying33; have dx := zA cK; have eg := zA cM; clear cK cM; have di := zA cN; have em := zA cO; clear cN cO; have HB := zA (yG w.heap.size w); have H : (spec_ValueSize.l0 k 1 0 aa ae ah ai ac ab) = some r := h; clear h; have H' := zA H; clear H; go_enter Tryd.func13, Tryd.ntmps13; go_wp2_with (first | ((with_reducible refine zT (N := 1) rfl ?_); refine zW (by rfl) (N := 1) (by rfl) (cs := #[.int .i64 aa, .int .i64 ae, .int .i64 ah, .string ai, .slice bc ac.length aZ, .slice bO ab.length bI]) (t := 33) apF ?_; intro WX hg w2 hbox hb; have ub := zA (hbox); have GW526 := zA (gwl hg (zR apA)); have Do := zA (gwl hg (zR apA)); replace HB := zA (zQ apA hb); clear hb hbox hg))
 go_loopg [3, 4] k (fun kq v3 v4 w' => ∃ (bo : Int) (bJ : Int), v3 = .int .i64 bo ∧ v4 = .int .i64 bJ ∧ Aside0 (spec_ValueSize.l0 kq bo bJ aa ae ah ai ac ab = some r) ∧ Aside0 (kq ≤ k) ∧ Aside0 (w'.heap[WX]? = some (.cells #[.int .i64 aa, .int .i64 ae, .int .i64 ah, .string ai, (.slice bc ac.length aZ), (.slice bO ab.length bI)] 33 (0, 0))) ∧ Aside0 (Below w.heap.size w w'))
 case atStart => exact ⟨(1), (0), apB, apB, H', ⟨yH _⟩, ⟨vwB ub.out⟩, ⟨apBC⟩⟩
 case round =>
  clear H'; (try clear c1 p2); obtain ⟨bo, bJ, rfl, rfl, HA, HK1, ub, HB⟩ := hrel
  cases gk with
  | zero => exact absurd HA.out (by simp [spec_ValueSize.l0])
  | succ k1 =>
   have H := HA.out; clear HA; simp only [spec_ValueSize.l0] at H; by_cases c3 : bJ < (ac.length : Int)
   ·rw [if_pos c3] at H; have i2 : decide (bJ < (ac.length : Int)) = true := yD c3; clear c3; by_cases c4 : 0 ≤ bJ
    ·rw [if_pos c4] at H; have me : decide (0 ≤ bJ) = true := yD c4; clear c4; replace H := Option.bind_eq_some_iff.mp H; obtain ⟨NP, A50, H⟩ := H; have A5 := zA A50; clear A50; have H' := zA H; clear H; obtain ⟨_, _, _, _, _, _, _, _, _, _, _, _⟩ := zb6 ub.out; have TK : 0 ≤ (bJ : Int) := yE apD; have TL : bJ < (ac.length : Int) := yE apD; obtain ⟨ad527, TM, TN, TO, TP, e527, xS, xT, xU, xV, xW, xX, Dp, Dq, Dr, Ds⟩ := at_T33 dx.out bJ TK TL; cases e527; replace xS := (HB.out.cell (zS w _ xS)).trans xS; replace xT := (HB.out.cell (zS w _ xT)).trans xT; replace xU := (HB.out.cell (zS w _ xU)).trans xU; replace xV := (HB.out.cell (zS w _ xV)).trans xV; replace xW := (HB.out.cell (zS w _ xW)).trans xW; replace xX := (HB.out.cell (zS w _ xX)).trans xX; have NQ := zA Dq; have NR := zA Dp; clear Dq Dp; have NS := zA Ds; have NT := zA Dr; clear Ds Dr; replace TK := eq_true TK; replace TL := eq_true TL; go_wp2_with (first | ((with_reducible refine zV (f := 13) rfl ?_); refine goesL_ (some 18) rfl rfl Tryd.func13 (by kernel_rfl) rfl #[.agg #[.int .i64 ((rd_T33 ac bJ).f0), .int .i64 ((rd_T33 ac bJ).f1.f0), .int .i64 ((rd_T33 ac bJ).f1.f1), .string ((rd_T33 ac bJ).f2), .slice TM ((rd_T33 ac bJ).f3).length TN, .slice TO ((rd_T33 ac bJ).f4).length TP]] rfl apC ?_; (with_reducible refine (ih k1 apR ((rd_T33 ac bJ).f0) ((rd_T33 ac bJ).f1.f0) ((rd_T33 ac bJ).f1.f1) ((rd_T33 ac bJ).f2) _ _ ((rd_T33 ac bJ).f3) _ _ ((rd_T33 ac bJ).f4) NP _ ?side1 ?side2 ?side3 ?side4 A5.out).mono ?_); (case side1 => exact vc (Kd.C_below NQ.out HB.out)); (case side2 => exact NR.out); (case side3 => exact vc (Kd.C_below NS.out HB.out)); (case side4 => exact NT.out); rintro e w7 ⟨rfl, hb⟩; refine ⟨_, rfl, ?_⟩; replace ub := zA (zP (vwB ub.out) hb); replace HB := zA (zQ apBC hb); (try clear hb hk hi)))
     go_roundg k1
     case measure => have := HK1.out; omega
     case rel => exact ⟨(wrap64 (bo + NP)), (wrap64 (bJ + 1)), apB, apB, H', ⟨apR⟩, ⟨vwB ub.out⟩, ⟨apBC⟩⟩
    ·rw [if_neg c4] at H; exact absurd H (by simp)
   ·rw [if_neg c3] at H; have i2 : decide (bJ < (ac.length : Int)) = false := decide_eq_false c3; clear c3; obtain rfl := yF H; obtain ⟨_, _, _, _, _, _, _, _, _, _, _, _⟩ := zb6 ub.out; go_wp2
    go_ret
    exact ⟨apE, apBC⟩


mutual
def spec_l7Deep.l0 : Nat → Int → Int → Int → Int → Int → ByteArray → List (S33) → List ByteArray → Option (Int)
 | 0, _, _, _, _, _, _, _, _ => none
 | k + 1, x3, x4, Dt, Du, Dw, Dx, ku, Dy => if x4 < (ku.length : Int) then (if 0 ≤ x4 then ((spec_l7Deep.f k ((rd_T33 ku x4).f0) ((rd_T33 ku x4).f1.f0) ((rd_T33 ku x4).f1.f1) ((rd_T33 ku x4).f2) ((rd_T33 ku x4).f3) ((rd_T33 ku x4).f4)).bind fun BH => (if BH > x3 then (spec_l7Deep.l0 k BH (wrap64 (x4 + 1)) Dt Du Dw Dx ku Dy) else (spec_l7Deep.l0 k x3 (wrap64 (x4 + 1)) Dt Du Dw Dx ku Dy))) else (none)) else (some (wrap64 (x3 + 1)))
def spec_l7Deep.f : Nat → Int → Int → Int → ByteArray → List (S33) → List ByteArray → Option (Int)
 | 0, _, _, _, _, _, _ => none
 | k + 1, aa, ae, ah, ai, ac, ab => spec_l7Deep.l0 k 0 0 aa ae ah ai ac ab
end
theorem spec_l7Deep.mono_l : ∀ k, (∀ y0 y1 y2 y3 y4 y5, LeO (spec_l7Deep.f k y0 y1 y2 y3 y4 y5) (spec_l7Deep.f (k + 1) y0 y1 y2 y3 y4 y5)) ∧ (∀ y0 y1 y2 y3 y4 y5 y6 y7, LeO (spec_l7Deep.l0 k y0 y1 y2 y3 y4 y5 y6 y7) (spec_l7Deep.l0 (k + 1) y0 y1 y2 y3 y4 y5 y6 y7))
 | 0 => ⟨fun _ _ _ _ _ _ r h => by simp [spec_l7Deep.f] at h, fun _ _ _ _ _ _ _ _ r h => by simp [spec_l7Deep.l0] at h⟩
 | k + 1 => by
  obtain ⟨ih0, ih1⟩ := spec_l7Deep.mono_l k; refine ⟨?_, ?_⟩
  ·intro y0 y1 y2 y3 y4 y5; unfold spec_l7Deep.f
   repeat' first
   | (with_reducible exact ih0 _ _ _ _ _ _)
   | (with_reducible exact ih1 _ _ _ _ _ _ _ _)
   | exact lm
   | (with_reducible refine LeO.ite ?_ ?_)
   | (with_reducible refine LeO.bind ?_ (fun _ => ?_))
   | exact LeO.none _
  ·intro y0 y1 y2 y3 y4 y5 y6 y7; unfold spec_l7Deep.l0
   repeat' first
   | (with_reducible exact ih0 _ _ _ _ _ _)
   | (with_reducible exact ih1 _ _ _ _ _ _ _ _)
   | exact lm
   | (with_reducible refine LeO.ite ?_ ?_)
   | (with_reducible refine LeO.bind ?_ (fun _ => ?_))
   | exact LeO.none _
theorem spec_l7Deep.mono : ∀ a0 a1 a2 a3 a4 a5 k, LeO (spec_l7Deep.f k a0 a1 a2 a3 a4 a5) (spec_l7Deep.f (k + 1) a0 a1 a2 a3 a4 a5) := by
 intro a0 a1 a2 a3 a4 a5 k; obtain ⟨ih0, ih1⟩ := spec_l7Deep.mono_l k; exact ih0 a0 a1 a2 a3 a4 a5
set_option maxHeartbeats 8000000 in
set_option maxRecDepth 100000 in
theorem spec_l7Deep.calls (k : Nat) : ∀ (aa : Int) (ae : Int) (ah : Int) (ai : ByteArray) (bc : Option Addr) (aZ : Nat) (ac : List (S33)) (bO : Option Addr) (bI : Nat) (ab : List ByteArray) (r : Int) (w : World) (cK : Kd.C k33 w bc ac.length ac) (cM : ac.length ≤ aZ) (cN : Kd.C Kd.string w bO ab.length ab) (cO : ab.length ≤ bI) (h : spec_l7Deep.f k aa ae ah ai ac ab = some r),
  Calls Tryd.prog 19 #[.agg #[.int .i64 aa, .int .i64 ae, .int .i64 ah, .string ai, .slice bc ac.length aZ, .slice bO ab.length bI]] w fun e w' => e = .returned (.int .i64 r) ∧ Below w.heap.size w w' := by
 induction k using Nat.strongRecOn with
 | _ k ih =>
 intro aa ae ah ai bc aZ ac bO bI ab r w cK cM cN cO h
 cases k with
 | zero => exact absurd h (by simp [spec_l7Deep.f])
 | succ k =>
 simp only [spec_l7Deep.f] at h; have m0 := Tryd.underlying33; have dx := zA cK; have eg := zA cM; clear cK cM; have di := zA cN; have em := zA cO; clear cN cO; have HB := zA (yG w.heap.size w); have H : (spec_l7Deep.l0 k 0 0 aa ae ah ai ac ab) = some r := h; clear h; have H' := zA H; clear H; go_enter Tryd.func19, Tryd.ntmps19; go_wp2_with (first | ((with_reducible refine zT (N := 1) rfl ?_); refine zW (by rfl) (N := 1) (by rfl) (cs := #[.int .i64 aa, .int .i64 ae, .int .i64 ah, .string ai, .slice bc ac.length aZ, .slice bO ab.length bI]) (t := 33) apF ?_; intro WY hg w2 hbox hb; have rU := zA (hbox); have GW529 := zA (gwl hg (zR apA)); have BI := zA (gwl hg (zR apA)); replace HB := zA (zQ apA hb); clear hb hbox hg))
 go_loopg [3, 4] k (fun kq v3 v4 w' => ∃ (bo : Int) (bJ : Int), v3 = .int .i64 bo ∧ v4 = .int .i64 bJ ∧ Aside0 (spec_l7Deep.l0 kq bo bJ aa ae ah ai ac ab = some r) ∧ Aside0 (kq ≤ k) ∧ Aside0 (w'.heap[WY]? = some (.cells #[.int .i64 aa, .int .i64 ae, .int .i64 ah, .string ai, (.slice bc ac.length aZ), (.slice bO ab.length bI)] 33 (0, 0))) ∧ Aside0 (Below w.heap.size w w'))
 case atStart => exact ⟨(0), (0), apB, apB, H', ⟨yH _⟩, ⟨vwB rU.out⟩, ⟨apAM⟩⟩
 case round =>
  clear H'; (try clear c1 p2); obtain ⟨bo, bJ, rfl, rfl, HA, HK1, rU, HB⟩ := hrel
  cases gk with
  | zero => exact absurd HA.out (by simp [spec_l7Deep.l0])
  | succ k1 =>
   have H := HA.out; clear HA; simp only [spec_l7Deep.l0] at H; by_cases c3 : bJ < (ac.length : Int)
   ·rw [if_pos c3] at H; have i2 : decide (bJ < (ac.length : Int)) = true := yD c3; clear c3; by_cases c4 : 0 ≤ bJ
    ·rw [if_pos c4] at H; have me : decide (0 ≤ bJ) = true := yD c4; clear c4; replace H := Option.bind_eq_some_iff.mp H; obtain ⟨BH, A50, H⟩ := H; have A5 := zA A50; clear A50; have HC6 := zA H; clear H; obtain ⟨_, _, _, _, _, _, _, _, _, _, _, _⟩ := zb6 rU.out; have TQ : 0 ≤ (bJ : Int) := yE apD; have TR : bJ < (ac.length : Int) := yE apD; obtain ⟨ad530, TS, TT, TU, TV, e530, xY, xZ, ya, yb, yc, yd, Dz, DA, DB, DC⟩ := at_T33 dx.out bJ TQ TR; cases e530; replace xY := (HB.out.cell (zS w _ xY)).trans xY; replace xZ := (HB.out.cell (zS w _ xZ)).trans xZ; replace ya := (HB.out.cell (zS w _ ya)).trans ya; replace yb := (HB.out.cell (zS w _ yb)).trans yb; replace yc := (HB.out.cell (zS w _ yc)).trans yc; replace yd := (HB.out.cell (zS w _ yd)).trans yd; have NU := zA DA; have NV := zA Dz; clear DA Dz; have NW := zA DC; have NX := zA DB; clear DC DB; replace TQ := eq_true TQ; replace TR := eq_true TR; go_upto_if 21 with (first | ((with_reducible refine zV (f := 19) rfl ?_); refine goesL_ (some 18) rfl rfl Tryd.func19 (by kernel_rfl) rfl #[.agg #[.int .i64 ((rd_T33 ac bJ).f0), .int .i64 ((rd_T33 ac bJ).f1.f0), .int .i64 ((rd_T33 ac bJ).f1.f1), .string ((rd_T33 ac bJ).f2), .slice TS ((rd_T33 ac bJ).f3).length TT, .slice TU ((rd_T33 ac bJ).f4).length TV]] rfl apC ?_; (with_reducible refine (ih k1 apR ((rd_T33 ac bJ).f0) ((rd_T33 ac bJ).f1.f0) ((rd_T33 ac bJ).f1.f1) ((rd_T33 ac bJ).f2) _ _ ((rd_T33 ac bJ).f3) _ _ ((rd_T33 ac bJ).f4) BH _ ?side1 ?side2 ?side3 ?side4 A5.out).mono ?_); (case side1 => exact vc (Kd.C_below NU.out HB.out)); (case side2 => exact NV.out); (case side3 => exact vc (Kd.C_below NW.out HB.out)); (case side4 => exact NX.out); rintro e w8 ⟨rfl, hb⟩; refine ⟨_, rfl, ?_⟩; replace rU := zA (zP (vwB rU.out) hb); replace HB := zA (zQ apAM hb); (try clear hb hk hi)))
     (try simp only [Act.put, zL, zM, zN])
     have H := HC6.out; clear HC6; by_cases c9 : BH > bo
     ·rw [if_pos c9] at H; have kv : decide (bo < BH) = true := yD c9; clear c9
      (first | rw [kv] | rw [mL] | (simp only [i64_w, i32_w]; rw [kv]) | (simp only [i64_w, i32_w]; rw [mL]) | skip)
      have H' := zA H; clear H; go_wp2
      go_roundg k1
      case measure => have := HK1.out; omega
      case rel => exact ⟨(BH), (wrap64 (bJ + 1)), apB, apB, H', ⟨apR⟩, ⟨vwB rU.out⟩, ⟨apAM⟩⟩
     ·rw [if_neg c9] at H; have kv : decide (bo < BH) = false := decide_eq_false c9; clear c9
      (first | rw [kv] | rw [mL] | (simp only [i64_w, i32_w]; rw [kv]) | (simp only [i64_w, i32_w]; rw [mL]) | skip)
      have H' := zA H; clear H; go_wp2
      go_roundg k1
      case measure => have := HK1.out; omega
      case rel => exact ⟨(bo), (wrap64 (bJ + 1)), apB, apB, H', ⟨apR⟩, ⟨vwB rU.out⟩, ⟨apAM⟩⟩
    ·rw [if_neg c4] at H; exact absurd H (by simp)
   ·rw [if_neg c3] at H; have i2 : decide (bJ < (ac.length : Int)) = false := decide_eq_false c3; clear c3; obtain rfl := yF H; obtain ⟨_, _, _, _, _, _, _, _, _, _, _, _⟩ := zb6 rU.out; go_wp2
    go_ret
    exact ⟨apE, apAM⟩


def spec_DecOk.f (aa : Int) (ae : Int) : Option (Bool) := if aa = 0 then (some (ae == 0)) else ((spec_l1In.f aa (-99999999) 99999999).bind fun Kp => (if Kp = true then ((spec_l1In.f ae (-8) 8).bind fun Kq => (if Kq = true then (some ((Int.tmod aa 10) != 0)) else (some false))) else (some false)))
set_option maxHeartbeats 8000000 in
set_option maxRecDepth 100000 in
theorem spec_DecOk.calls (aa : Int) (ae : Int) (r : Bool) (w : World) (h : spec_DecOk.f aa ae = some r) :
  Calls Tryd.prog 49 #[.agg #[.int .i64 aa, .int .i64 ae]] w fun e w' => e = .returned (.bool r) ∧ Below w.heap.size w w' := by
 have sn := Tryd.underlying30; have HB := zA (yG w.heap.size w); have H : (if aa = 0 then (some (ae == 0)) else ((spec_l1In.f aa (-99999999) 99999999).bind fun Kp => (if Kp = true then ((spec_l1In.f ae (-8) 8).bind fun Kq => (if Kq = true then (some ((Int.tmod aa 10) != 0)) else (some false))) else (some false)))) = some r := h; clear h; have HC2 := zA H; clear H; go_enter Tryd.func49, Tryd.ntmps49; go_upto_if 5 with (first | ((with_reducible refine zT (N := 1) rfl ?_); refine zW (by rfl) (N := 1) (by rfl) (cs := #[.int .i64 aa, .int .i64 ae]) (t := 30) apF ?_; intro gb110 hg w3 hbox hb; have BJ := zA (hbox); have GW110 := zA (gwl hg (zR apA)); have Rm := zA (gwl hg (zR apA)); replace HB := zA (zQ apA hb); clear hb hbox hg; obtain ⟨_, _, _, _⟩ := zb2 BJ.out))
 (try simp only [Act.put, zL, zM, zN])
 have H := HC2.out; clear HC2; by_cases c5 : aa = 0
 ·rw [if_pos c5] at H; have dI : (aa == 0) = true := beq_iff_eq.mpr c5; have eP : (aa != 0) = false := bne_eq_false_iff_eq.mpr c5; clear c5
  (first | rw [dI] | rw [eP] | (simp only [i64_w, i32_w]; rw [dI]) | (simp only [i64_w, i32_w]; rw [eP]) | skip)
  obtain rfl := yF H; obtain ⟨_, _, _, _⟩ := zb2 BJ.out; go_wp2
  go_ret
  exact ⟨apE, by repeat (first | (with_reducible first | exact HB.out | apply zG | apply zE | apply zF | refine zH ?_ Rm.out) | exact HB.out)⟩
 ·rw [if_neg c5] at H; have dI : (aa == 0) = false := beq_eq_false_iff_ne.mpr c5; have eP : (aa != 0) = true := bne_iff_ne.mpr c5
  (first | rw [dI] | rw [eP] | (simp only [i64_w, i32_w]; rw [dI]) | (simp only [i64_w, i32_w]; rw [eP]) | skip)
  replace H := Option.bind_eq_some_iff.mp H; obtain ⟨Kp, A70, H⟩ := H; have A7 := zA A70; clear A70; by_cases c8 : Kp = true
  ·subst c8; have H1 := H; rw [if_pos rfl] at H1; clear H; have H := H1; clear H1; replace H := Option.bind_eq_some_iff.mp H; obtain ⟨Kq, A90, H⟩ := H; have A9 := zA A90; clear A90; by_cases c10 : Kq = true
   ·subst c10; have H1 := H; rw [if_pos rfl] at H1; clear H; have H := H1; clear H1; obtain rfl := yF H; obtain ⟨_, _, _, _⟩ := zb2 BJ.out; go_wp2_with (first | ((with_reducible refine zV (f := 66) rfl ?_); refine goesL_ (some 11) rfl rfl Tryd.func66 (by kernel_rfl) rfl #[.int .i64 aa, .int .i64 (-99999999), .int .i64 99999999] rfl apC ?_; (with_reducible refine (spec_l1In.calls aa (-99999999) 99999999 true _ A7.out).mono ?_); rintro e w' ⟨rfl, ⟨nd, rfl⟩⟩; refine ⟨_, rfl, ?_⟩) | (go_at_call 66; (with_reducible refine (spec_l1In.calls ae (-8) 8 true _ A9.out).mono ?_); rintro e w' ⟨rfl, ⟨nd, rfl⟩⟩))
    go_ret
    exact ⟨apE, by repeat (first | (with_reducible first | exact HB.out | apply zG | apply zE | apply zF | refine zH ?_ Rm.out) | exact HB.out)⟩
   ·replace c10 := Bool.eq_false_iff.mpr c10; subst c10; have H1 := H; rw [if_neg (show ¬ (false = true) by decide)] at H1; clear H; have H := H1; clear H1; obtain rfl := yF H; obtain ⟨_, _, _, _⟩ := zb2 BJ.out; go_wp2_with (first | ((with_reducible refine zV (f := 66) rfl ?_); refine goesL_ (some 11) rfl rfl Tryd.func66 (by kernel_rfl) rfl #[.int .i64 aa, .int .i64 (-99999999), .int .i64 99999999] rfl apC ?_; (with_reducible refine (spec_l1In.calls aa (-99999999) 99999999 true _ A7.out).mono ?_); rintro e w' ⟨rfl, ⟨nd, rfl⟩⟩; refine ⟨_, rfl, ?_⟩) | (go_at_call 66; (with_reducible refine (spec_l1In.calls ae (-8) 8 false _ A9.out).mono ?_); rintro e w' ⟨rfl, ⟨nd, rfl⟩⟩))
    go_ret
    exact ⟨apE, apA⟩
  ·replace c8 := Bool.eq_false_iff.mpr c8; subst c8; have H1 := H; rw [if_neg (show ¬ (false = true) by decide)] at H1; clear H; have H := H1; clear H1; obtain rfl := yF H; obtain ⟨_, _, _, _⟩ := zb2 BJ.out; go_wp2_with (first | ((with_reducible refine zV (f := 66) rfl ?_); refine goesL_ (some 11) rfl rfl Tryd.func66 (by kernel_rfl) rfl #[.int .i64 aa, .int .i64 (-99999999), .int .i64 99999999] rfl apC ?_; (with_reducible refine (spec_l1In.calls aa (-99999999) 99999999 false _ A7.out).mono ?_); rintro e w' ⟨rfl, ⟨nd, rfl⟩⟩; refine ⟨_, rfl, ?_⟩))
   go_ret
   exact ⟨apE, apA⟩


def spec_l7Names.l0 : Nat → List ByteArray → Int → Option (Bool)
 | 0, _, _ => none
 | k + 1, x0, x3 => if x3 < (x0.length : Int) then (if 0 ≤ x3 then ((spec_NameOk.f k (rdOf ByteArray.empty x0 x3)).bind fun TW => (if TW = true then (if x3 > 0 then (if 0 ≤ (wrap64 (x3 - 1)) then (if (wrap64 (x3 - 1)) < (x0.length : Int) then (if ((Op.bytesLess ((rdOf ByteArray.empty x0 (wrap64 (x3 - 1))).toList) ((rdOf ByteArray.empty x0 x3).toList)) = true) then (spec_l7Names.l0 k x0 (wrap64 (x3 + 1))) else (some false)) else (none)) else (none)) else (spec_l7Names.l0 k x0 (wrap64 (x3 + 1)))) else (some false))) else (none)) else (some true)
def spec_l7Names.f (k : Nat) (l0 : List ByteArray) : Option (Bool) := spec_l7Names.l0 k l0 0
theorem spec_l7Names.mono_l : ∀ k, (∀ y0 y1, LeO (spec_l7Names.l0 k y0 y1) (spec_l7Names.l0 (k + 1) y0 y1))
 | 0 => fun _ _ r h => by simp [spec_l7Names.l0] at h
 | k + 1 => by
  have ih0 := spec_l7Names.mono_l k
  ·intro y0 y1; unfold spec_l7Names.l0
   repeat' first
   | (with_reducible exact ih0 _ _)
   | (with_reducible exact spec_NameOk.mono _ _)
   | exact lm
   | (with_reducible refine LeO.ite ?_ ?_)
   | (with_reducible refine LeO.bind ?_ (fun _ => ?_))
   | exact LeO.none _
theorem spec_l7Names.mono : ∀ a0 k, LeO (spec_l7Names.f k a0) (spec_l7Names.f (k + 1) a0) := by
 intro a0 k; have ih0 := spec_l7Names.mono_l k; unfold spec_l7Names.f
 repeat' first
   | (with_reducible exact ih0 _ _)
   | (with_reducible exact spec_NameOk.mono _ _)
   | exact lm
   | (with_reducible refine LeO.ite ?_ ?_)
   | (with_reducible refine LeO.bind ?_ (fun _ => ?_))
   | exact LeO.none _
def spec_l7Names.T4 : Bool × List (List Nat × List Nat) := (true, [([], []), ([], []), ([0, 1], [0, 1]), ([2], [2]), ([3], [3]), ([4], [4]), ([5, 4], [5]), ([6], [6]), ([7, 6], [6, 7]), ([8, 6, 6], [6, 8]), ([9], [9]), ([9], [9]), ([11, 9], [9, 11]), ([10, 12, 9], [9, 10, 12]), ([13, 9], [9, 13]), ([9], [9]), ([9], [9]), ([15, 16, 9], [9, 15, 16]), ([17, 9], [9, 17]), ([14, 18, 9], [9, 14, 18]), ([9, 19, 6], [6, 9, 19]), ([6, 20], [6, 20])])
def spec_l7Names.B4 : List Nat := [0, 0, 3, 7, 15, 31, 63, 127, 255, 511, 1023, 1023, 3071, 8191, 16383, 1023, 1023, 99327, 230399, 524287, 1048575, 2097151]
theorem spec_l7Names.tab4 : rtab .any (opsOf Tryd.f50 4) = spec_l7Names.T4 := by kernel_rfl
theorem spec_l7Names.bits4 : waitsOk spec_l7Names.T4.2 spec_l7Names.B4 = true := by kernel_rfl
set_option maxHeartbeats 8000000 in
set_option maxRecDepth 100000 in
theorem spec_l7Names.calls (k : Nat) (A0 : Option Addr) (c0 : Nat) (l0 : List ByteArray) (r : Bool) (w : World) (hr0 : Kd.C Kd.string w A0 l0.length l0) (hc0 : l0.length ≤ c0) (h : spec_l7Names.f k l0 = some r) :
  Calls Tryd.prog 50 #[.slice A0 l0.length c0] w fun e w' => e = .returned (.bool r) ∧ Below w.heap.size w w' := by
 have HR0 := zA hr0; have HC0 := zA hc0; clear hr0 hc0; have HB := zA (yG w.heap.size w); have H : (spec_l7Names.l0 k l0 0) = some r := h; clear h; have H' := zA H; clear H; go_enter Tryd.func50, Tryd.ntmps50; go_wp2
 go_loopg [3] k (fun kq v3 w' => ∃ (bo : Int), v3 = .int .i64 bo ∧ Aside0 (spec_l7Names.l0 kq l0 bo = some r) ∧ Aside0 (kq ≤ k) ∧ Aside0 (Below w.heap.size w w'))
 case atStart => exact ⟨(0), apB, H', ⟨yH _⟩, ⟨apA⟩⟩
 case round =>
  clear H'; obtain ⟨bo, rfl, HA, HK1, HB⟩ := hrel
  cases gk with
  | zero => exact absurd HA.out (by simp [spec_l7Names.l0])
  | succ k1 =>
   have H := HA.out; clear HA; simp only [spec_l7Names.l0] at H; by_cases c2 : bo < (l0.length : Int)
   ·rw [if_pos c2] at H; have ka : decide (bo < (l0.length : Int)) = true := yD c2; clear c2; by_cases c3 : 0 ≤ bo
    ·rw [if_pos c3] at H; have i2 : decide (0 ≤ bo) = true := yD c3; clear c3; replace H := Option.bind_eq_some_iff.mp H; obtain ⟨TW, A40, H⟩ := H; have A4 := zA A40; clear A40; by_cases c5 : TW = true
     ·subst c5; have H1 := H; rw [if_pos rfl] at H1; clear H; have H := H1; clear H1; by_cases c6 : bo > 0
      ·rw [if_pos c6] at H; have oC : decide (0 < bo) = true := yD c6; clear c6; obtain ⟨ji7, Kr⟩ : ∃ j_ : Int, (wrap64 (bo - 1)) = j_ := ⟨_, rfl⟩
       replace H : (if 0 ≤ (ji7) then (if (ji7) < (l0.length : Int) then (if ((Op.bytesLess ((rdOf ByteArray.empty l0 (ji7)).toList) ((rdOf ByteArray.empty l0 bo).toList)) = true) then (spec_l7Names.l0 k1 l0 (wrap64 (bo + 1))) else (some false)) else (none)) else (none)) = some r := by first | (rw [Kr] at H; exact H) | (simp only [Kr] at H ⊢; exact H)
       (try rw [Kr] at A4)
       have hji7w : (IntKind.i64.wrap (bo - 1)) = ji7 := (i64_w _).trans Kr; by_cases c8 : 0 ≤ (ji7)
       ·rw [if_pos c8] at H; have uc : decide (0 ≤ (ji7)) = true := yD c8; clear c8; by_cases c9 : (ji7) < (l0.length : Int)
        ·rw [if_pos c9] at H; have kv : decide ((ji7) < (l0.length : Int)) = true := yD c9; clear c9; have BF := zA H; clear H; (try go_wp2); replace HB := zA (zF HB.out); have ud : 0 ≤ (bo : Int) := yE apD; have ue : bo < (l0.length : Int) := yE apD; obtain ⟨oY, Ks, eN⟩ := Kd.at_string HR0.out bo ud ue; have fx := eN; cases Ks; replace eN := (HB.out.cell (zS w _ eN)).trans eN; replace ud := eq_true ud; replace ue := eq_true ue; have TX : 0 ≤ ((ji7) : Int) := yE apD; have TY : (ji7) < (l0.length : Int) := yE apD; obtain ⟨WZ, e545, oZ⟩ := Kd.at_string HR0.out (ji7) TX TY; have st := oZ; obtain rfl : oY = WZ := (by injection e545); replace oZ := (HB.out.cell (zS w _ oZ)).trans oZ; replace TX := eq_true TX; replace TY := eq_true TY; have TZ : 0 ≤ (bo : Int) := yE apD; have U0 : bo < (l0.length : Int) := yE apD; obtain ⟨X0, e546, pa⟩ := Kd.at_string HR0.out bo TZ U0; have su := pa; obtain rfl : oY = X0 := (by injection e546); replace pa := (HB.out.cell (zS w _ pa)).trans pa; replace TZ := eq_true TZ; replace U0 := eq_true U0; refine start_ (n := 22) (S := fun w' => w'.cell? (oY.add (bo).toNat) = some (.string (rdOf ByteArray.empty l0 bo)) ∧ w'.cell? (oY.add ((ji7)).toNat) = some (.string (rdOf ByteArray.empty l0 (ji7))) ∧ w'.cell? (oY.add (bo).toNat) = some (.string (rdOf ByteArray.empty l0 bo))) (ds := []) mk44 (by kernel_rfl) rfl rfl ⟨((HB.out.cell (zS w _ fx)).trans fx), ((HB.out.cell (zS w _ st)).trans st), ((HB.out.cell (zS w _ su)).trans su)⟩ (fun hHeld => ?_); refine with_tabW spec_l7Names.tab4 spec_l7Names.bits4 (fun HT_ HW_ => ?_); generalize wr.drew = w11 at HB eN oZ pa hHeld ⊢; refine pz (i := 0) (N := some 10) mk45 ?_; refine pz (i := 1) (N := some 11) mk46 ?_; refine pz (i := 2) (N := some 12) mk47 ?_; refine tz3 (i := 3) (N := some 13) mk48 hHeld ?_; refine oz (i := 4) (N := some 14) mk49 (fun K hK => ?_); refine goes_ Tryd.func67 (by kernel_rfl) rfl #[.string (rdOf ByteArray.empty l0 bo)] (by rfl) rfl rfl apC ?_
         with_reducible refine (spec_NameOk.calls k1 (rdOf ByteArray.empty l0 bo) true _ A4.out).mono ?_
         rintro e w12 ⟨rfl, hb⟩; refine ⟨_, rfl, ?_⟩; replace HB := zA (zQ apA hb)
         (try clear hb)
         (try clear hb2)
         (try clear hk)
         (try clear hi)
         refine hK.out _ _ ⟨((HB.out.cell (zS w _ fx)).trans fx), ((HB.out.cell (zS w _ st)).trans st), ((HB.out.cell (zS w _ su)).trans su)⟩ (fun hHeld => ?_); clear hK K; refine norm_ (a' := ?_) ?_ ?_; rotate_left
         ·show Act.put _ (some 14) _ = _
          simp only [Act.put, zL, zM, zN, i64_w, i32_w]; rfl
         refine pz (i := 5) (N := some 15) mk50 ?_; refine pz (i := 6) (N := some 16) mk51 ?_; refine pz (i := 7) (N := some 17) mk52 ?_; refine pz (i := 8) (N := some 18) mk53 ?_; refine pz (i := 9) (N := some 19) mk54 ?_; refine pz (i := 10) (N := some 20) mk55 ?_; refine pz (i := 11) (N := some 21) mk56 ?_; refine pz (i := 12) (N := some 22) mk57 ?_; refine pz (i := 13) (N := some 23) mk58 ?_; refine pz (i := 15) (N := some 25) #[true, true, true, true, true, true, true, true, true, true, true, true, true, true, false, true, false, false, false, false, false, false] ?_; refine pz (i := 16) (N := some 26) #[true, true, true, true, true, true, true, true, true, true, true, true, true, true, false, true, true, false, false, false, false, false] ?_; refine pz (i := 17) (N := some 27) #[true, true, true, true, true, true, true, true, true, true, true, true, true, true, false, true, true, true, false, false, false, false] ?_; refine tz3 (i := 14) (N := some 24) mk59 hHeld ?_; refine tz3 (i := 18) (N := some 28) mk60 hHeld ?_; refine pz (i := 19) (N := some 29) mk61 ?_; refine pz (i := 20) (N := some 30) mk62 ?_; refine pz (i := 21) (N := some 31) mk63 ?_; refine done_ (done_of HT_.out (by kernel_rfl)) ?_; go_upto_if 31 with (fail)
         have H := BF.out; clear BF; by_cases c13 : ((Op.bytesLess ((rdOf ByteArray.empty l0 (ji7)).toList) ((rdOf ByteArray.empty l0 bo).toList)) = true)
         ·rw [if_pos c13] at H; have rV : (Op.bytesLess ((rdOf ByteArray.empty l0 (ji7)).toList) ((rdOf ByteArray.empty l0 bo).toList)) = true := c13; clear c13
          (first | rw [rV] | rw [wX] | (simp only [i64_w, i32_w]; rw [rV]) | (simp only [i64_w, i32_w]; rw [wX]) | skip)
          have H' := zA H; clear H; go_wp2
          go_roundg k1
          case measure => have := HK1.out; omega
          case rel => exact ⟨(wrap64 (bo + 1)), apB, H', ⟨apR⟩, ⟨apA⟩⟩
         ·rw [if_neg c13] at H
          have rV : (Op.bytesLess ((rdOf ByteArray.empty l0 (ji7)).toList) ((rdOf ByteArray.empty l0 bo).toList)) = false := by simpa using c13
          clear c13
          (first | rw [rV] | rw [wX] | (simp only [i64_w, i32_w]; rw [rV]) | (simp only [i64_w, i32_w]; rw [wX]) | skip)
          obtain rfl := yF H; go_wp2
          go_ret
          exact ⟨by first | rfl | (simp [errW_none, errW_some] <;> rfl) | (simp only [← Kr]; first | rfl | (simp [errW_none, errW_some] <;> rfl)) | (simp [*, errW_none, errW_some] <;> rfl), apA⟩
        ·rw [if_neg c9] at H; exact absurd H (by simp)
       ·rw [if_neg c8] at H; exact absurd H (by simp)
      ·rw [if_neg c6] at H; have oC : decide (0 < bo) = false := decide_eq_false c6; clear c6; have H' := zA H; clear H; (try go_wp2); replace HB := zA (zF HB.out); have ud : 0 ≤ (bo : Int) := yE apD; have ue : bo < (l0.length : Int) := yE apD; obtain ⟨oY, Ks, eN⟩ := Kd.at_string HR0.out bo ud ue; have fx := eN; cases Ks; replace eN := (HB.out.cell (zS w _ eN)).trans eN; replace ud := eq_true ud; replace ue := eq_true ue; refine start_ (n := 22) (S := fun w' => w'.cell? (oY.add (bo).toNat) = some (.string (rdOf ByteArray.empty l0 bo))) (ds := []) mk44 (by kernel_rfl) rfl rfl (((HB.out.cell (zS w _ fx)).trans fx)) (fun hHeld => ?_); refine with_tabW spec_l7Names.tab4 spec_l7Names.bits4 (fun HT_ HW_ => ?_); generalize wr.drew = w14 at HB eN hHeld ⊢; refine pz (i := 0) (N := some 10) mk45 ?_; refine pz (i := 1) (N := some 11) mk46 ?_; refine pz (i := 2) (N := some 12) mk47 ?_; refine tz1 (i := 3) (N := some 13) mk48 hHeld ?_; refine oz (i := 4) (N := some 14) mk49 (fun K hK => ?_); refine goes_ Tryd.func67 (by kernel_rfl) rfl #[.string (rdOf ByteArray.empty l0 bo)] (by rfl) rfl rfl apC ?_
       with_reducible refine (spec_NameOk.calls k1 (rdOf ByteArray.empty l0 bo) true _ A4.out).mono ?_
       rintro e w15 ⟨rfl, hb⟩; refine ⟨_, rfl, ?_⟩; replace HB := zA (zQ apA hb)
       (try clear hb)
       (try clear hb2)
       (try clear hk)
       (try clear hi)
       refine hK.out _ _ (((HB.out.cell (zS w _ fx)).trans fx)) (fun hHeld => ?_); clear hK K; refine norm_ (a' := ?_) ?_ ?_; rotate_left
       ·show Act.put _ (some 14) _ = _
        simp only [Act.put, zL, zM, zN, i64_w, i32_w]; rfl
       refine pz (i := 5) (N := some 15) mk50 ?_; refine pz (i := 6) (N := some 16) mk51 ?_; refine pz (i := 7) (N := some 17) mk52 ?_; refine pz (i := 8) (N := some 18) mk53 ?_; refine pz (i := 9) (N := some 19) mk54 ?_; refine pu (i := 10) (N := some 20) mk55 ?_; refine pu (i := 11) (N := some 21) mk56 ?_; refine pu (i := 12) (N := some 22) mk57 ?_; refine pu (i := 13) (N := some 23) mk58 ?_; refine pu (i := 14) (N := some 24) mk73 ?_; refine pu (i := 15) (N := some 25) mk74 ?_; refine pu (i := 16) (N := some 26) mk75 ?_; refine pu (i := 17) (N := some 27) mk59 ?_; refine pu (i := 18) (N := some 28) mk60 ?_; refine pu (i := 19) (N := some 29) mk61 ?_; refine pz (i := 20) (N := some 30) mk62 ?_; refine pz (i := 21) (N := some 31) mk63 ?_; refine done_ (done_of HT_.out (by kernel_rfl)) ?_; (try go_wp2)
       go_roundg k1
       case measure => have := HK1.out; omega
       case rel => exact ⟨(wrap64 (bo + 1)), apB, H', ⟨apR⟩, ⟨apA⟩⟩
     ·replace c5 := Bool.eq_false_iff.mpr c5; subst c5; have H1 := H; rw [if_neg (show ¬ (false = true) by decide)] at H1; clear H; have H := H1; clear H1; obtain rfl := yF H; (try go_wp2); replace HB := zA (zF HB.out); have ud : 0 ≤ (bo : Int) := yE apD; have ue : bo < (l0.length : Int) := yE apD; obtain ⟨oY, Ks, eN⟩ := Kd.at_string HR0.out bo ud ue; have fx := eN; cases Ks; replace eN := (HB.out.cell (zS w _ eN)).trans eN; replace ud := eq_true ud; replace ue := eq_true ue; refine start_ (n := 22) (S := fun w' => w'.cell? (oY.add (bo).toNat) = some (.string (rdOf ByteArray.empty l0 bo))) (ds := []) mk44 (by kernel_rfl) rfl rfl (((HB.out.cell (zS w _ fx)).trans fx)) (fun hHeld => ?_); refine with_tabW spec_l7Names.tab4 spec_l7Names.bits4 (fun HT_ HW_ => ?_); generalize wr.drew = w16 at HB eN hHeld ⊢; refine pz (i := 0) (N := some 10) mk45 ?_; refine pz (i := 1) (N := some 11) mk46 ?_; refine pz (i := 2) (N := some 12) mk47 ?_; refine tz1 (i := 3) (N := some 13) mk48 hHeld ?_; refine oz (i := 4) (N := some 14) mk49 (fun K hK => ?_); refine goes_ Tryd.func67 (by kernel_rfl) rfl #[.string (rdOf ByteArray.empty l0 bo)] (by rfl) rfl rfl apC ?_
      with_reducible refine (spec_NameOk.calls k1 (rdOf ByteArray.empty l0 bo) false _ A4.out).mono ?_
      rintro e w17 ⟨rfl, hb⟩; refine ⟨_, rfl, ?_⟩; replace HB := zA (zQ apA hb)
      (try clear hb)
      (try clear hb2)
      (try clear hk)
      (try clear hi)
      refine hK.out _ _ (((HB.out.cell (zS w _ fx)).trans fx)) (fun hHeld => ?_); clear hK K; refine norm_ (a' := ?_) ?_ ?_; rotate_left
      ·show Act.put _ (some 14) _ = _
       simp only [Act.put, zL, zM, zN, i64_w, i32_w]; rfl
      refine pz (i := 5) (N := some 15) mk50 ?_; refine pz (i := 6) (N := some 16) mk51 ?_; refine pu (i := 7) (N := some 17) mk52 ?_; refine pu (i := 8) (N := some 18) mk53 ?_; refine pu (i := 9) (N := some 19) mk54 ?_; refine pu (i := 10) (N := some 20) mk55 ?_; refine pu (i := 11) (N := some 21) mk56 ?_; refine pu (i := 12) (N := some 22) mk57 ?_; refine pu (i := 13) (N := some 23) mk58 ?_; refine pu (i := 14) (N := some 24) mk73 ?_; refine pu (i := 15) (N := some 25) mk74 ?_; refine pu (i := 16) (N := some 26) mk75 ?_; refine pu (i := 17) (N := some 27) mk59 ?_; refine pu (i := 18) (N := some 28) mk60 ?_; refine pu (i := 19) (N := some 29) mk61 ?_; refine pu (i := 20) (N := some 30) mk62 ?_; refine pz (i := 21) (N := some 31) mk63 ?_; refine done_ (done_of HT_.out (by kernel_rfl)) ?_; (try go_wp2)
      go_ret
      exact ⟨apE, apA⟩
    ·rw [if_neg c3] at H; exact absurd H (by simp)
   ·rw [if_neg c2] at H; have ka : decide (bo < (l0.length : Int)) = false := decide_eq_false c2; clear c2; obtain rfl := yF H; go_wp2
    go_ret
    exact ⟨apE, apA⟩


theorem eqA30 (d : Nat) (w : World) (x0 y0 : Int) (x1 y1 : Int) :
  (Op.equalIn (d + 2) 30 (.agg #[.int .i64 x0, .int .i64 x1]) (.agg #[.int .i64 y0, .int .i64 y1])).run Tryd.prog w = .ok (x0 == y0 && (x1 == y1)) w := by
 refine eqA_of Tryd.underlying30 (by kernel_rfl) ?_; refine eqf_cons (by rfl) (by go_simp; rfl) (by go_simp; rfl) (by go_simp) ?_; exact eqf_last (by rfl) (by go_simp; rfl) (by go_simp; rfl) (by go_simp)
end Go.Proofs.YtoajejdicfabmaaDoor.Q

namespace Go.Proofs.YtoajejdicfabmaaDoor.Q
open Go.RowKit Go.Proofs.YtoajejdicfabmaaDoorW.PrintWords Go.Proofs.YtoajejdicfabmaaDoorW.PrintLast Go.Proofs.YtoajejdicfabmaaDoorW.PrintMore Go.Proofs.YtoajejdicfabmaaDoorX
attribute [local go_sem] max2_int min2_int max_two min_two max_three min_three max_four min_four   -- for this text's walks alone
set_option linter.unusedVariables false
set_option linter.unusedSimpArgs false

attribute [local go_sem high] eqA30
def spec_l7One.j0 : Nat → Int → Bool → Int → Int → Int → ByteArray → List (S33) → List ByteArray → Option (Bool)
 | 0, _, _, _, _, _, _, _, _ => none
 | k + 1, x4, x5, x548000, pb, pc, pd, sv, nb => if x5 = true then (if (pb == 0 && (pc == 0)) = true then (if pd.toList = ([] : List UInt8) then (if (sv.length : Int) = 0 then (some ((nb.length : Int) == 0)) else (some false)) else (some false)) else (some false)) else (if x4 = 3 then ((spec_DecOk.f pb pc).bind fun U1 => (if U1 = true then (if pd.toList = ([] : List UInt8) then (if (sv.length : Int) = 0 then (some ((nb.length : Int) == 0)) else (some false)) else (some false)) else (some false))) else (if x4 = 4 then (if (pb == 0 && (pc == 0)) = true then (if (pd.size : Int) ≤ 1500 then (if (sv.length : Int) = 0 then (some ((nb.length : Int) == 0)) else (some false)) else (some false)) else (some false)) else (if x4 = 5 then (if (pb == 0 && (pc == 0)) = true then (if pd.toList = ([] : List UInt8) then (some ((nb.length : Int) == 0)) else (some false)) else (some false)) else (if x4 = 6 then (if (pb == 0 && (pc == 0)) = true then (if pd.toList = ([] : List UInt8) then (if (nb.length : Int) = (sv.length : Int) then ((spec_l7Names.f k nb).bind fun U2 => (some U2)) else (some false)) else (some false)) else (some false)) else (some false)))))
def spec_l7One.f (k : Nat) (aa : Int) (ae : Int) (ah : Int) (ai : ByteArray) (ac : List (S33)) (ab : List ByteArray) : Option (Bool) := if aa = 0 then (spec_l7One.j0 k aa (aa == 0) aa ae ah ai ac ab) else (if aa = 1 then (spec_l7One.j0 k aa (aa == 1) aa ae ah ai ac ab) else (spec_l7One.j0 k aa (aa == 2) aa ae ah ai ac ab))
theorem spec_l7One.mono_l : ∀ k, (∀ y0 y1 y2 y3 y4 y5 y6 y7, LeO (spec_l7One.j0 k y0 y1 y2 y3 y4 y5 y6 y7) (spec_l7One.j0 (k + 1) y0 y1 y2 y3 y4 y5 y6 y7))
 | 0 => fun _ _ _ _ _ _ _ _ r h => by simp [spec_l7One.j0] at h
 | k + 1 => by
  have ih0 := spec_l7One.mono_l k
  ·intro y0 y1 y2 y3 y4 y5 y6 y7; unfold spec_l7One.j0
   repeat' first
   | (with_reducible exact ih0 _ _ _ _ _ _ _ _)
   | (with_reducible exact spec_l7Names.mono _ _)
   | exact lm
   | (with_reducible refine LeO.ite ?_ ?_)
   | (with_reducible refine LeO.bind ?_ (fun _ => ?_))
   | exact LeO.none _
theorem spec_l7One.mono : ∀ a0 a1 a2 a3 a4 a5 k, LeO (spec_l7One.f k a0 a1 a2 a3 a4 a5) (spec_l7One.f (k + 1) a0 a1 a2 a3 a4 a5) := by
 intro a0 a1 a2 a3 a4 a5 k; have ih0 := spec_l7One.mono_l k; unfold spec_l7One.f
 repeat' first
   | (with_reducible exact ih0 _ _ _ _ _ _ _ _)
   | (with_reducible exact spec_l7Names.mono _ _)
   | exact lm
   | (with_reducible refine LeO.ite ?_ ?_)
   | (with_reducible refine LeO.bind ?_ (fun _ => ?_))
   | exact LeO.none _
set_option maxHeartbeats 8000000 in
set_option maxRecDepth 100000 in
theorem spec_l7One.calls (k : Nat) (aa : Int) (ae : Int) (ah : Int) (ai : ByteArray) (bc : Option Addr) (aZ : Nat) (ac : List (S33)) (bO : Option Addr) (bI : Nat) (ab : List ByteArray) (r : Bool) (w : World) (cK : Kd.C k33 w bc ac.length ac) (cM : ac.length ≤ aZ) (cN : Kd.C Kd.string w bO ab.length ab) (cO : ab.length ≤ bI) (h : spec_l7One.f k aa ae ah ai ac ab = some r) :
  Calls Tryd.prog 34 #[.agg #[.int .i64 aa, .int .i64 ae, .int .i64 ah, .string ai, .slice bc ac.length aZ, .slice bO ab.length bI]] w fun e w' => e = .returned (.bool r) ∧ Below w.heap.size w w' := by
 have m0 := Tryd.underlying33; have sn := Tryd.underlying30; have dx := zA cK; have eg := zA cM; clear cK cM; have di := zA cN; have em := zA cO; clear cN cO; have HB := zA (yG w.heap.size w); have H : (if aa = 0 then (spec_l7One.j0 k aa (aa == 0) aa ae ah ai ac ab) else (if aa = 1 then (spec_l7One.j0 k aa (aa == 1) aa ae ah ai ac ab) else (spec_l7One.j0 k aa (aa == 2) aa ae ah ai ac ab))) = some r := h; clear h; have HC2 := zA H; clear H; go_enter Tryd.func34, Tryd.ntmps34; go_upto_if 5 with (first | ((with_reducible refine zT (N := 1) rfl ?_); (try (refine gate_guard (by rfl) ?_; dsimp only)); refine zW (by rfl) (N := 1) (by rfl) (cs := #[.int .i64 aa, .int .i64 ae, .int .i64 ah, .string ai, .slice bc ac.length aZ, .slice bO ab.length bI]) (t := 33) apF ?_; intro X1 hg w3 hbox hb; have ea := zA (hbox); have GW547 := zA (gwl hg (zR apA)); have fy := zA (gwl hg (zR apA)); replace HB := zA (zQ apA hb); clear hb hbox hg; obtain ⟨_, _, _, _, _, _, _, _, _, _, _, _⟩ := zb6 ea.out))
 (try simp only [Act.put, zL, zM, zN])
 go_cut [5] (fun v5 wc => ∃ (kq : Nat) (b9 : Bool), v5 = .bool b9 ∧ Aside0 (spec_l7One.j0 kq aa b9 aa ae ah ai ac ab = some r) ∧ Aside0 (kq ≤ k) ∧ Aside0 (wc.heap[X1]? = some (.cells #[.int .i64 aa, .int .i64 ae, .int .i64 ah, .string ai, (.slice bc ac.length aZ), (.slice bO ab.length bI)] 33 (0, 0))) ∧ Aside0 (Below w.heap.size w wc))
 case first =>
  have H := HC2.out; clear HC2; by_cases c5 : aa = 0
  ·rw [if_pos c5] at H; have dI : (aa == 0) = true := beq_iff_eq.mpr c5; have eP : (aa != 0) = false := bne_eq_false_iff_eq.mpr c5; clear c5
   (first | rw [dI] | rw [eP] | (simp only [i64_w, i32_w]; rw [dI]) | (simp only [i64_w, i32_w]; rw [eP]) | skip)
   have H' := zA H; clear H; go_wp2
   go_meet
   case rel => exact ⟨_, ((aa == 0)), apB, H', ⟨apL⟩, ⟨vwB ea.out⟩, ⟨apT⟩⟩
  ·rw [if_neg c5] at H; have dI : (aa == 0) = false := beq_eq_false_iff_ne.mpr c5; have eP : (aa != 0) = true := bne_iff_ne.mpr c5
   (first | rw [dI] | rw [eP] | (simp only [i64_w, i32_w]; rw [dI]) | (simp only [i64_w, i32_w]; rw [eP]) | skip)
   by_cases c6 : aa = 1
   ·rw [if_pos c6] at H; have oC : (aa == 1) = true := beq_iff_eq.mpr c6; have wE : (aa != 1) = false := bne_eq_false_iff_eq.mpr c6; clear c6; have H' := zA H; clear H; go_wp2
    go_meet
    case rel => exact ⟨_, ((aa == 1)), apB, H', ⟨apL⟩, ⟨vwB ea.out⟩, ⟨apT⟩⟩
   ·rw [if_neg c6] at H; have oC : (aa == 1) = false := beq_eq_false_iff_ne.mpr c6; have wE : (aa != 1) = true := bne_iff_ne.mpr c6; have H' := zA H; clear H; go_wp2
    go_meet
    case rel => exact ⟨_, ((aa == 2)), apB, H', ⟨apL⟩, ⟨vwB ea.out⟩, ⟨apT⟩⟩
 case rest =>
  clear HC2; (try clear p2 c3 c5 dI eP c6 oC wE Kt Ku hcz4_2 hcz4_3 hcz4_4 hcz4_5 hfz4_0 Kv hfz4_2 hfz4_3 hfz4_4 hfz4_5); obtain ⟨kq, b9, rfl, HA, HJ1, ea, HB⟩ := hcut
  cases kq with
  | zero => exact absurd HA.out (by simp [spec_l7One.j0])
  | succ kj1 =>
   have H := HA.out; clear HA; simp only [spec_l7One.j0] at H; by_cases c7 : b9 = true
   ·subst c7; have H1 := H; rw [if_pos rfl] at H1; clear H; have H := H1; clear H1; by_cases c8 : (ae == 0 && (ah == 0)) = true
    ·rw [if_pos c8] at H; have uc : (ae == 0 && (ah == 0)) = true := c8
     (try (have Kw : decide (ae = 0 && (ah == 0)) = true := by simpa using c8))
     (try (have c8b2 : (ae == 0 && (ah == 0)) = true := by simpa using c8))
     clear c8; by_cases c9 : ai.toList = ([] : List UInt8)
     ·rw [if_pos c9] at H; have kv : (ai.toList == ([] : List UInt8)) = true := beq_iff_eq.mpr c9; have mL : (ai.toList != ([] : List UInt8)) = false := bne_eq_false_iff_eq.mpr c9; clear c9; by_cases c10 : (ac.length : Int) = 0
      ·rw [if_pos c10] at H; have ki : ((ac.length : Int) == 0) = true := beq_iff_eq.mpr c10; have rT : ((ac.length : Int) != 0) = false := bne_eq_false_iff_eq.mpr c10; clear c10; obtain rfl := yF H; obtain ⟨_, _, _, _, _, _, _, _, _, _, _, _⟩ := zb6 ea.out; go_wp2
       go_ret
       exact ⟨apE, apT⟩
      ·rw [if_neg c10] at H; have ki : ((ac.length : Int) == 0) = false := beq_eq_false_iff_ne.mpr c10; have rT : ((ac.length : Int) != 0) = true := bne_iff_ne.mpr c10
       have c10b2 : ¬ (ac = []) := fun h_ => c10 (by rw [h_]; rfl)
       obtain rfl := yF H; obtain ⟨_, _, _, _, _, _, _, _, _, _, _, _⟩ := zb6 ea.out; go_wp2
       go_ret
       exact ⟨apE, apT⟩
     ·rw [if_neg c9] at H; have kv : (ai.toList == ([] : List UInt8)) = false := beq_eq_false_iff_ne.mpr c9; have mL : (ai.toList != ([] : List UInt8)) = true := bne_iff_ne.mpr c9; obtain rfl := yF H; obtain ⟨_, _, _, _, _, _, _, _, _, _, _, _⟩ := zb6 ea.out; go_wp2
      go_ret
      exact ⟨apE, apT⟩
    ·rw [if_neg c8] at H
     have uc : (ae == 0 && (ah == 0)) = false := by simpa using c8
     (try (have Kw : decide (ae = 0 && (ah == 0)) = false := by simpa using c8))
     (try (have c8b2 : (ae == 0 && (ah == 0)) = false := by simpa using c8))
     (try (have c8b3 : ¬ (ae = 0 && (ah == 0)) := by simpa using c8))
     clear c8; obtain rfl := yF H; obtain ⟨_, _, _, _, _, _, _, _, _, _, _, _⟩ := zb6 ea.out; go_wp2
     go_ret
     exact ⟨apE, apT⟩
   ·replace c7 := Bool.eq_false_iff.mpr c7; subst c7; have H1 := H; rw [if_neg (show ¬ (false = true) by decide)] at H1; clear H; have H := H1; clear H1; by_cases c15 : aa = 3
    ·rw [if_pos c15] at H; have oE : (aa == 3) = true := beq_iff_eq.mpr c15; have pe : (aa != 3) = false := bne_eq_false_iff_eq.mpr c15; clear c15; replace H := Option.bind_eq_some_iff.mp H; obtain ⟨U1, BK, H⟩ := H; have A16 := zA BK; clear BK; by_cases c17 : U1 = true
     ·subst c17; have H1 := H; rw [if_pos rfl] at H1; clear H; have H := H1; clear H1; by_cases c18 : ai.toList = ([] : List UInt8)
      ·rw [if_pos c18] at H; have rW : (ai.toList == ([] : List UInt8)) = true := beq_iff_eq.mpr c18; have BL : (ai.toList != ([] : List UInt8)) = false := bne_eq_false_iff_eq.mpr c18; clear c18; by_cases c19 : (ac.length : Int) = 0
       ·rw [if_pos c19] at H; have DD : ((ac.length : Int) == 0) = true := beq_iff_eq.mpr c19; have X2 : ((ac.length : Int) != 0) = false := bne_eq_false_iff_eq.mpr c19; clear c19; obtain rfl := yF H; obtain ⟨_, _, _, _, _, _, _, _, _, _, _, _⟩ := zb6 ea.out; go_wp2_with (first | ((with_reducible refine zV (f := 49) rfl ?_); refine goesL_ (some 34) rfl rfl Tryd.func49 (by kernel_rfl) rfl #[.agg #[.int .i64 ae, .int .i64 ah]] rfl apC ?_; (with_reducible refine (spec_DecOk.calls ae ah true _ A16.out).mono ?_); rintro e w21 ⟨rfl, hb⟩; refine ⟨_, rfl, ?_⟩; replace ea := zA (zP (vwB ea.out) hb); replace HB := zA (zQ apT hb); (try clear hb hk hi); obtain ⟨_, _, _, _, _, _, _, _, _, _, _, _⟩ := zb6 ea.out))
        go_ret
        exact ⟨apE, apT⟩
       ·rw [if_neg c19] at H; have DD : ((ac.length : Int) == 0) = false := beq_eq_false_iff_ne.mpr c19; have X2 : ((ac.length : Int) != 0) = true := bne_iff_ne.mpr c19
        have c19b2 : ¬ (ac = []) := fun h_ => c19 (by rw [h_]; rfl)
        obtain rfl := yF H; obtain ⟨_, _, _, _, _, _, _, _, _, _, _, _⟩ := zb6 ea.out; go_wp2_with (first | ((with_reducible refine zV (f := 49) rfl ?_); refine goesL_ (some 34) rfl rfl Tryd.func49 (by kernel_rfl) rfl #[.agg #[.int .i64 ae, .int .i64 ah]] rfl apC ?_; (with_reducible refine (spec_DecOk.calls ae ah true _ A16.out).mono ?_); rintro e w24 ⟨rfl, hb⟩; refine ⟨_, rfl, ?_⟩; replace ea := zA (zP (vwB ea.out) hb); replace HB := zA (zQ apT hb); (try clear hb hk hi); obtain ⟨_, _, _, _, _, _, _, _, _, _, _, _⟩ := zb6 ea.out))
        go_ret
        exact ⟨apE, apT⟩
      ·rw [if_neg c18] at H; have rW : (ai.toList == ([] : List UInt8)) = false := beq_eq_false_iff_ne.mpr c18; have BL : (ai.toList != ([] : List UInt8)) = true := bne_iff_ne.mpr c18; obtain rfl := yF H; obtain ⟨_, _, _, _, _, _, _, _, _, _, _, _⟩ := zb6 ea.out; go_wp2_with (first | ((with_reducible refine zV (f := 49) rfl ?_); refine goesL_ (some 34) rfl rfl Tryd.func49 (by kernel_rfl) rfl #[.agg #[.int .i64 ae, .int .i64 ah]] rfl apC ?_; (with_reducible refine (spec_DecOk.calls ae ah true _ A16.out).mono ?_); rintro e w27 ⟨rfl, hb⟩; refine ⟨_, rfl, ?_⟩; replace ea := zA (zP (vwB ea.out) hb); replace HB := zA (zQ apT hb); (try clear hb hk hi); obtain ⟨_, _, _, _, _, _, _, _, _, _, _, _⟩ := zb6 ea.out))
       go_ret
       exact ⟨apE, apT⟩
     ·replace c17 := Bool.eq_false_iff.mpr c17; subst c17; have H1 := H; rw [if_neg (show ¬ (false = true) by decide)] at H1; clear H; have H := H1; clear H1; obtain rfl := yF H; obtain ⟨_, _, _, _, _, _, _, _, _, _, _, _⟩ := zb6 ea.out; go_wp2_with (first | ((with_reducible refine zV (f := 49) rfl ?_); refine goesL_ (some 34) rfl rfl Tryd.func49 (by kernel_rfl) rfl #[.agg #[.int .i64 ae, .int .i64 ah]] rfl apC ?_; (with_reducible refine (spec_DecOk.calls ae ah false _ A16.out).mono ?_); rintro e w30 ⟨rfl, hb⟩; refine ⟨_, rfl, ?_⟩; replace HB := zA (zQ apA hb); (try clear hb hk hi)))
      go_ret
      exact ⟨apE, apA⟩
    ·rw [if_neg c15] at H; have oE : (aa == 3) = false := beq_eq_false_iff_ne.mpr c15; have pe : (aa != 3) = true := bne_iff_ne.mpr c15; by_cases c31 : aa = 4
     ·rw [if_pos c31] at H; have lC : (aa == 4) = true := beq_iff_eq.mpr c31; have oG : (aa != 4) = false := bne_eq_false_iff_eq.mpr c31; clear c31; by_cases c32 : (ae == 0 && (ah == 0)) = true
      ·rw [if_pos c32] at H; have rX : (ae == 0 && (ah == 0)) = true := c32
       (try (have X3 : decide (ae = 0 && (ah == 0)) = true := by simpa using c32))
       (try (have X4 : (ae == 0 && (ah == 0)) = true := by simpa using c32))
       clear c32; by_cases c33 : (ai.size : Int) ≤ 1500
       ·rw [if_pos c33] at H; have rY : decide ((ai.size : Int) ≤ 1500) = true := yD c33; have uf : decide (ai.size ≤ 1500) = true := yD (by omega); clear c33; by_cases c34 : (ac.length : Int) = 0
        ·rw [if_pos c34] at H; have wY : ((ac.length : Int) == 0) = true := beq_iff_eq.mpr c34; have Rn : ((ac.length : Int) != 0) = false := bne_eq_false_iff_eq.mpr c34; clear c34; obtain rfl := yF H; obtain ⟨_, _, _, _, _, _, _, _, _, _, _, _⟩ := zb6 ea.out; go_wp2
         go_ret
         exact ⟨apE, apT⟩
        ·rw [if_neg c34] at H; have wY : ((ac.length : Int) == 0) = false := beq_eq_false_iff_ne.mpr c34; have Rn : ((ac.length : Int) != 0) = true := bne_iff_ne.mpr c34
         have c34b2 : ¬ (ac = []) := fun h_ => c34 (by rw [h_]; rfl)
         obtain rfl := yF H; obtain ⟨_, _, _, _, _, _, _, _, _, _, _, _⟩ := zb6 ea.out; go_wp2
         go_ret
         exact ⟨apE, apT⟩
       ·rw [if_neg c33] at H; have rY : decide ((ai.size : Int) ≤ 1500) = false := decide_eq_false c33; have uf : decide (ai.size ≤ 1500) = false := decide_eq_false (by omega); clear c33; obtain rfl := yF H; obtain ⟨_, _, _, _, _, _, _, _, _, _, _, _⟩ := zb6 ea.out; go_wp2
        go_ret
        exact ⟨apE, apT⟩
      ·rw [if_neg c32] at H
       have rX : (ae == 0 && (ah == 0)) = false := by simpa using c32
       (try (have X3 : decide (ae = 0 && (ah == 0)) = false := by simpa using c32))
       (try (have X4 : (ae == 0 && (ah == 0)) = false := by simpa using c32))
       (try (have c32b3 : ¬ (ae = 0 && (ah == 0)) := by simpa using c32))
       clear c32; obtain rfl := yF H; obtain ⟨_, _, _, _, _, _, _, _, _, _, _, _⟩ := zb6 ea.out; go_wp2
       go_ret
       exact ⟨apE, apT⟩
     ·rw [if_neg c31] at H; have lC : (aa == 4) = false := beq_eq_false_iff_ne.mpr c31; have oG : (aa != 4) = true := bne_iff_ne.mpr c31; by_cases c39 : aa = 5
      ·rw [if_pos c39] at H; have X5 : (aa == 5) = true := beq_iff_eq.mpr c39; have X6 : (aa != 5) = false := bne_eq_false_iff_eq.mpr c39; clear c39; by_cases c40 : (ae == 0 && (ah == 0)) = true
       ·rw [if_pos c40] at H; have Ro : (ae == 0 && (ah == 0)) = true := c40
        (try (have X7 : decide (ae = 0 && (ah == 0)) = true := by simpa using c40))
        (try (have X8 : (ae == 0 && (ah == 0)) = true := by simpa using c40))
        clear c40; by_cases c41 : ai.toList = ([] : List UInt8)
        ·rw [if_pos c41] at H; have Kx : (ai.toList == ([] : List UInt8)) = true := beq_iff_eq.mpr c41; have Rp : (ai.toList != ([] : List UInt8)) = false := bne_eq_false_iff_eq.mpr c41; clear c41; obtain rfl := yF H; obtain ⟨_, _, _, _, _, _, _, _, _, _, _, _⟩ := zb6 ea.out; go_wp2
         go_ret
         exact ⟨apE, apT⟩
        ·rw [if_neg c41] at H; have Kx : (ai.toList == ([] : List UInt8)) = false := beq_eq_false_iff_ne.mpr c41; have Rp : (ai.toList != ([] : List UInt8)) = true := bne_iff_ne.mpr c41; obtain rfl := yF H; obtain ⟨_, _, _, _, _, _, _, _, _, _, _, _⟩ := zb6 ea.out; go_wp2
         go_ret
         exact ⟨apE, apT⟩
       ·rw [if_neg c40] at H
        have Ro : (ae == 0 && (ah == 0)) = false := by simpa using c40
        (try (have X7 : decide (ae = 0 && (ah == 0)) = false := by simpa using c40))
        (try (have X8 : (ae == 0 && (ah == 0)) = false := by simpa using c40))
        (try (have c40b3 : ¬ (ae = 0 && (ah == 0)) := by simpa using c40))
        clear c40; obtain rfl := yF H; obtain ⟨_, _, _, _, _, _, _, _, _, _, _, _⟩ := zb6 ea.out; go_wp2
        go_ret
        exact ⟨apE, apT⟩
      ·rw [if_neg c39] at H; have X5 : (aa == 5) = false := beq_eq_false_iff_ne.mpr c39; have X6 : (aa != 5) = true := bne_iff_ne.mpr c39; by_cases c45 : aa = 6
       ·rw [if_pos c45] at H; have Rq : (aa == 6) = true := beq_iff_eq.mpr c45; have X9 : (aa != 6) = false := bne_eq_false_iff_eq.mpr c45; clear c45; by_cases c46 : (ae == 0 && (ah == 0)) = true
        ·rw [if_pos c46] at H; have ug : (ae == 0 && (ah == 0)) = true := c46
         (try (have uh : decide (ae = 0 && (ah == 0)) = true := by simpa using c46))
         (try (have Xa : (ae == 0 && (ah == 0)) = true := by simpa using c46))
         clear c46; by_cases c47 : ai.toList = ([] : List UInt8)
         ·rw [if_pos c47] at H; have Xb : (ai.toList == ([] : List UInt8)) = true := beq_iff_eq.mpr c47; have Xc : (ai.toList != ([] : List UInt8)) = false := bne_eq_false_iff_eq.mpr c47; clear c47; by_cases c48 : (ab.length : Int) = (ac.length : Int)
          ·rw [if_pos c48] at H; have rZ : ((ab.length : Int) == (ac.length : Int)) = true := beq_iff_eq.mpr c48; have ui : ((ab.length : Int) != (ac.length : Int)) = false := bne_eq_false_iff_eq.mpr c48
           have Xd : (ab.length == ac.length) = true := by first | simpa using c48 | (simp at c48 ⊢; omega)
           clear c48; replace H := Option.bind_eq_some_iff.mp H; obtain ⟨U2, Ky, H⟩ := H; have A49 := zA Ky; clear Ky; obtain rfl := yF H; obtain ⟨_, _, _, _, _, _, _, _, _, _, _, _⟩ := zb6 ea.out; go_wp2_with (first | (go_at_call 50; (with_reducible refine (spec_l7Names.calls kj1 _ _ ab U2 _ ?side1 ?side2 A49.out).mono ?_); (case side1 => exact vc (Kd.C_below di.out HB.out)); (case side2 => exact em.out); rintro e w51 ⟨rfl, hb⟩; replace HB := zA (zQ apA hb); (try clear hb hk hi)))
           go_ret
           exact ⟨apE, apA⟩
          ·rw [if_neg c48] at H; have rZ : ((ab.length : Int) == (ac.length : Int)) = false := beq_eq_false_iff_ne.mpr c48; have ui : ((ab.length : Int) != (ac.length : Int)) = true := bne_iff_ne.mpr c48
           have Xd : (ab.length == ac.length) = false := by first | simpa using c48 | (simp at c48 ⊢; omega)
           obtain rfl := yF H; obtain ⟨_, _, _, _, _, _, _, _, _, _, _, _⟩ := zb6 ea.out; go_wp2
           go_ret
           exact ⟨apE, apT⟩
         ·rw [if_neg c47] at H; have Xb : (ai.toList == ([] : List UInt8)) = false := beq_eq_false_iff_ne.mpr c47; have Xc : (ai.toList != ([] : List UInt8)) = true := bne_iff_ne.mpr c47; obtain rfl := yF H; obtain ⟨_, _, _, _, _, _, _, _, _, _, _, _⟩ := zb6 ea.out; go_wp2
          go_ret
          exact ⟨apE, apT⟩
        ·rw [if_neg c46] at H
         have ug : (ae == 0 && (ah == 0)) = false := by simpa using c46
         (try (have uh : decide (ae = 0 && (ah == 0)) = false := by simpa using c46))
         (try (have Xa : (ae == 0 && (ah == 0)) = false := by simpa using c46))
         (try (have c46b3 : ¬ (ae = 0 && (ah == 0)) := by simpa using c46))
         clear c46; obtain rfl := yF H; obtain ⟨_, _, _, _, _, _, _, _, _, _, _, _⟩ := zb6 ea.out; go_wp2
         go_ret
         exact ⟨apE, apT⟩
       ·rw [if_neg c45] at H; have Rq : (aa == 6) = false := beq_eq_false_iff_ne.mpr c45; have X9 : (aa != 6) = true := bne_iff_ne.mpr c45; obtain rfl := yF H; go_wp2
        go_ret
        exact ⟨apE, apT⟩

end Go.Proofs.YtoajejdicfabmaaDoor.Q

namespace Go.Proofs.YtoajejdicfabmaaDoor.Q
open Go.RowKit Go.Proofs.YtoajejdicfabmaaDoorW.PrintWords Go.Proofs.YtoajejdicfabmaaDoorW.PrintLast Go.Proofs.YtoajejdicfabmaaDoorW.PrintMore Go.Proofs.YtoajejdicfabmaaDoorX
attribute [local go_sem] max2_int min2_int max_two min_two max_three min_three max_four min_four   -- for this text's walks alone
set_option linter.unusedVariables false
set_option linter.unusedSimpArgs false

mutual
def spec_l7All.l0 : Nat → Int → Int → Int → Int → ByteArray → List (S33) → List ByteArray → Option (Bool)
 | 0, _, _, _, _, _, _, _ => none
 | k + 1, x3, NY, NZ, O0, O1, lD, O2 => if x3 < (lD.length : Int) then (if 0 ≤ x3 then ((spec_l7All.f k ((rd_T33 lD x3).f0) ((rd_T33 lD x3).f1.f0) ((rd_T33 lD x3).f1.f1) ((rd_T33 lD x3).f2) ((rd_T33 lD x3).f3) ((rd_T33 lD x3).f4)).bind fun O3 => (if O3 = true then (spec_l7All.l0 k (wrap64 (x3 + 1)) NY NZ O0 O1 lD O2) else (some false))) else (none)) else (some true)
def spec_l7All.f : Nat → Int → Int → Int → ByteArray → List (S33) → List ByteArray → Option (Bool)
 | 0, _, _, _, _, _, _ => none
 | k + 1, aa, ae, ah, ai, ac, ab => (spec_l7One.f k aa ae ah ai ac ab).bind fun JH => (if JH = true then (spec_l7All.l0 k 0 aa ae ah ai ac ab) else (some false))
end
theorem spec_l7All.mono_l : ∀ k, (∀ y0 y1 y2 y3 y4 y5, LeO (spec_l7All.f k y0 y1 y2 y3 y4 y5) (spec_l7All.f (k + 1) y0 y1 y2 y3 y4 y5)) ∧ (∀ y0 y1 y2 y3 y4 y5 y6, LeO (spec_l7All.l0 k y0 y1 y2 y3 y4 y5 y6) (spec_l7All.l0 (k + 1) y0 y1 y2 y3 y4 y5 y6))
 | 0 => ⟨fun _ _ _ _ _ _ r h => by simp [spec_l7All.f] at h, fun _ _ _ _ _ _ _ r h => by simp [spec_l7All.l0] at h⟩
 | k + 1 => by
  obtain ⟨ih0, ih1⟩ := spec_l7All.mono_l k; refine ⟨?_, ?_⟩
  ·intro y0 y1 y2 y3 y4 y5; unfold spec_l7All.f
   repeat' first
   | (with_reducible exact ih0 _ _ _ _ _ _)
   | (with_reducible exact ih1 _ _ _ _ _ _ _)
   | (with_reducible exact spec_l7One.mono _ _ _ _ _ _ _)
   | exact lm
   | (with_reducible refine LeO.ite ?_ ?_)
   | (with_reducible refine LeO.bind ?_ (fun _ => ?_))
   | exact LeO.none _
  ·intro y0 y1 y2 y3 y4 y5 y6; unfold spec_l7All.l0
   repeat' first
   | (with_reducible exact ih0 _ _ _ _ _ _)
   | (with_reducible exact ih1 _ _ _ _ _ _ _)
   | (with_reducible exact spec_l7One.mono _ _ _ _ _ _ _)
   | exact lm
   | (with_reducible refine LeO.ite ?_ ?_)
   | (with_reducible refine LeO.bind ?_ (fun _ => ?_))
   | exact LeO.none _
theorem spec_l7All.mono : ∀ a0 a1 a2 a3 a4 a5 k, LeO (spec_l7All.f k a0 a1 a2 a3 a4 a5) (spec_l7All.f (k + 1) a0 a1 a2 a3 a4 a5) := by
 intro a0 a1 a2 a3 a4 a5 k; obtain ⟨ih0, ih1⟩ := spec_l7All.mono_l k; exact ih0 a0 a1 a2 a3 a4 a5
set_option maxHeartbeats 8000000 in
set_option maxRecDepth 100000 in
theorem spec_l7All.calls (k : Nat) : ∀ (aa : Int) (ae : Int) (ah : Int) (ai : ByteArray) (bc : Option Addr) (aZ : Nat) (ac : List (S33)) (bO : Option Addr) (bI : Nat) (ab : List ByteArray) (r : Bool) (w : World) (cK : Kd.C k33 w bc ac.length ac) (cM : ac.length ≤ aZ) (cN : Kd.C Kd.string w bO ab.length ab) (cO : ab.length ≤ bI) (h : spec_l7All.f k aa ae ah ai ac ab = some r),
  Calls Tryd.prog 20 #[.agg #[.int .i64 aa, .int .i64 ae, .int .i64 ah, .string ai, .slice bc ac.length aZ, .slice bO ab.length bI]] w fun e w' => e = .returned (.bool r) ∧ Below w.heap.size w w' := by
 induction k using Nat.strongRecOn with
 | _ k ih =>
 intro aa ae ah ai bc aZ ac bO bI ab r w cK cM cN cO h
 cases k with
 | zero => exact absurd h (by simp [spec_l7All.f])
 | succ k =>
 simp only [spec_l7All.f] at h; have m0 := Tryd.underlying33; have dx := zA cK; have eg := zA cM; clear cK cM; have di := zA cN; have em := zA cO; clear cN cO; have HB := zA (yG w.heap.size w); have H : ((spec_l7One.f k aa ae ah ai ac ab).bind fun JH => (if JH = true then (spec_l7All.l0 k 0 aa ae ah ai ac ab) else (some false))) = some r := h; clear h; replace H := Option.bind_eq_some_iff.mp H; obtain ⟨JH, A20, H⟩ := H; have A2 := zA A20; clear A20; have HC3 := zA H; clear H; go_enter Tryd.func20, Tryd.ntmps20; go_upto_if 6 with (first | ((with_reducible refine zT (N := 1) rfl ?_); refine zW (by rfl) (N := 1) (by rfl) (cs := #[.int .i64 aa, .int .i64 ae, .int .i64 ah, .string ai, .slice bc ac.length aZ, .slice bO ab.length bI]) (t := 33) apF ?_; intro Xe hg w4 hbox hb; have oH := zA (hbox); have GW550 := zA (gwl hg (zR apA)); have uj := zA (gwl hg (zR apA)); replace HB := zA (zQ apA hb); clear hb hbox hg; obtain ⟨_, _, _, _, _, _, _, _, _, _, _, _⟩ := zb6 oH.out) | ((with_reducible refine zV (f := 34) rfl ?_); refine goesL_ (some 5) rfl rfl Tryd.func34 (by kernel_rfl) rfl #[.agg #[.int .i64 aa, .int .i64 ae, .int .i64 ah, .string ai, .slice bc ac.length aZ, .slice bO ab.length bI]] rfl apC ?_; (with_reducible refine (spec_l7One.calls k aa ae ah ai _ _ ac _ _ ab JH _ ?side1 ?side2 ?side3 ?side4 A2.out).mono ?_); (case side1 => exact vc (Kd.C_below dx.out HB.out)); (case side2 => exact eg.out); (case side3 => exact vc (Kd.C_below di.out HB.out)); (case side4 => exact em.out); rintro e w6 ⟨rfl, hb⟩; refine ⟨_, rfl, ?_⟩; replace oH := zA (zP (vwB oH.out) hb); replace HB := zA (zQ apw hb); (try clear hb hk hi)))
 (try simp only [Act.put, zL, zM, zN])
 have H := HC3.out; clear HC3; by_cases c7 : JH = true
 ·subst c7; have H1 := H; rw [if_pos rfl] at H1; clear H; have H := H1; clear H1; have H' := zA H; clear H; go_wp2
  go_loopg [3] k (fun kq v3 w' => ∃ (bo : Int), v3 = .int .i64 bo ∧ Aside0 (spec_l7All.l0 kq bo aa ae ah ai ac ab = some r) ∧ Aside0 (kq ≤ k) ∧ Aside0 (w'.heap[Xe]? = some (.cells #[.int .i64 aa, .int .i64 ae, .int .i64 ah, .string ai, (.slice bc ac.length aZ), (.slice bO ab.length bI)] 33 (0, 0))) ∧ Aside0 (Below w.heap.size w w'))
  case atStart => exact ⟨(0), apB, H', ⟨yH _⟩, ⟨vwB oH.out⟩, ⟨apw⟩⟩
  case round =>
   clear H'; (try clear c2 p2 c3 c7 hcz5_0 hcz5_1 hcz5_2 hcz5_3 hcz5_4 hcz5_5 hfz5_0 hfz5_1 hfz5_2 hfz5_3 hfz5_4 hfz5_5); obtain ⟨bo, rfl, HA, HK1, oH, HB⟩ := hrel
   cases gk with
   | zero => exact absurd HA.out (by simp [spec_l7All.l0])
   | succ k1 =>
    have H := HA.out; clear HA; simp only [spec_l7All.l0] at H; by_cases c8 : bo < (ac.length : Int)
    ·rw [if_pos c8] at H; have uc : decide (bo < (ac.length : Int)) = true := yD c8; clear c8
     (first | rw [uc] | rw [Kw] | (simp only [i64_w, i32_w]; rw [uc]) | (simp only [i64_w, i32_w]; rw [Kw]) | skip)
     by_cases c9 : 0 ≤ bo
     ·rw [if_pos c9] at H; have kv : decide (0 ≤ bo) = true := yD c9; clear c9; replace H := Option.bind_eq_some_iff.mp H; obtain ⟨O3, Xf, H⟩ := H; have A10 := zA Xf; clear Xf; have Xg := zA H; clear H; obtain ⟨_, _, _, _, _, _, _, _, _, _, _, _⟩ := zb6 oH.out; have U3 : 0 ≤ (bo : Int) := yE apD; have U4 : bo < (ac.length : Int) := yE apD; obtain ⟨ad552, U5, U6, U7, U8, e552, ye, yf, yg, yh, yi, yj, DE, DF, DG, DH⟩ := at_T33 dx.out bo U3 U4; cases e552; replace ye := (HB.out.cell (zS w _ ye)).trans ye; replace yf := (HB.out.cell (zS w _ yf)).trans yf; replace yg := (HB.out.cell (zS w _ yg)).trans yg; replace yh := (HB.out.cell (zS w _ yh)).trans yh; replace yi := (HB.out.cell (zS w _ yi)).trans yi; replace yj := (HB.out.cell (zS w _ yj)).trans yj; have O4 := zA DF; have O5 := zA DE; clear DF DE; have O6 := zA DH; have O7 := zA DG; clear DH DG; replace U3 := eq_true U3; replace U4 := eq_true U4; go_upto_if 20 with (first | ((with_reducible refine zV (f := 20) rfl ?_); refine goesL_ (some 19) rfl rfl Tryd.func20 (by kernel_rfl) rfl #[.agg #[.int .i64 ((rd_T33 ac bo).f0), .int .i64 ((rd_T33 ac bo).f1.f0), .int .i64 ((rd_T33 ac bo).f1.f1), .string ((rd_T33 ac bo).f2), .slice U5 ((rd_T33 ac bo).f3).length U6, .slice U7 ((rd_T33 ac bo).f4).length U8]] rfl apC ?_; (with_reducible refine (ih k1 apR ((rd_T33 ac bo).f0) ((rd_T33 ac bo).f1.f0) ((rd_T33 ac bo).f1.f1) ((rd_T33 ac bo).f2) _ _ ((rd_T33 ac bo).f3) _ _ ((rd_T33 ac bo).f4) O3 _ ?side1 ?side2 ?side3 ?side4 A10.out).mono ?_); (case side1 => exact vc (Kd.C_below O4.out HB.out)); (case side2 => exact O5.out); (case side3 => exact vc (Kd.C_below O6.out HB.out)); (case side4 => exact O7.out); rintro e w13 ⟨rfl, hb⟩; refine ⟨_, rfl, ?_⟩; replace oH := zA (zP (vwB oH.out) hb); replace HB := zA (zQ apw hb); (try clear hb hk hi)))
      (try simp only [Act.put, zL, zM, zN])
      have H := Xg.out; clear Xg; by_cases c14 : O3 = true
      ·subst c14; have H1 := H; rw [if_pos rfl] at H1; clear H; have H := H1; clear H1; have H' := zA H; clear H; go_wp2
       go_roundg k1
       case measure => have := HK1.out; omega
       case rel => exact ⟨(wrap64 (bo + 1)), apB, H', ⟨apR⟩, ⟨vwB oH.out⟩, ⟨apw⟩⟩
      ·replace c14 := Bool.eq_false_iff.mpr c14; subst c14; have H1 := H; rw [if_neg (show ¬ (false = true) by decide)] at H1; clear H; have H := H1; clear H1; obtain rfl := yF H; go_wp2
       go_ret
       exact ⟨apE, apw⟩
     ·rw [if_neg c9] at H; exact absurd H (by simp)
    ·rw [if_neg c8] at H; have uc : decide (bo < (ac.length : Int)) = false := decide_eq_false c8; clear c8
     (first | rw [uc] | rw [Kw] | (simp only [i64_w, i32_w]; rw [uc]) | (simp only [i64_w, i32_w]; rw [Kw]) | skip)
     obtain rfl := yF H; obtain ⟨_, _, _, _, _, _, _, _, _, _, _, _⟩ := zb6 oH.out; go_wp2
     go_ret
     exact ⟨apE, apw⟩
 ·replace c7 := Bool.eq_false_iff.mpr c7; subst c7; have H1 := H; rw [if_neg (show ¬ (false = true) by decide)] at H1; clear H; have H := H1; clear H1; obtain rfl := yF H; go_wp2
  go_ret
  exact ⟨apE, apw⟩


def spec_ValueOk.f (k : Nat) (aa : Int) (ae : Int) (ah : Int) (ai : ByteArray) (ac : List (S33)) (ab : List ByteArray) : Option (Bool) := (spec_ValueSize.f k aa ae ah ai ac ab).bind fun wF => (if wF ≤ 200 then ((spec_l7Deep.f k aa ae ah ai ac ab).bind fun yk => (if yk ≤ 20 then ((spec_l7All.f k aa ae ah ai ac ab).bind fun Kz => (some Kz)) else (some false))) else (some false))
theorem spec_ValueOk.mono : ∀ a0 a1 a2 a3 a4 a5 k, LeO (spec_ValueOk.f k a0 a1 a2 a3 a4 a5) (spec_ValueOk.f (k + 1) a0 a1 a2 a3 a4 a5) := by
 intro a0 a1 a2 a3 a4 a5 k; unfold spec_ValueOk.f
 repeat' first
   | (with_reducible exact spec_ValueSize.mono _ _ _ _ _ _ _)
   | (with_reducible exact spec_l7All.mono _ _ _ _ _ _ _)
   | (with_reducible exact spec_l7Deep.mono _ _ _ _ _ _ _)
   | exact lm
   | (with_reducible refine LeO.ite ?_ ?_)
   | (with_reducible refine LeO.bind ?_ (fun _ => ?_))
   | exact LeO.none _
set_option maxHeartbeats 8000000 in
set_option maxRecDepth 100000 in
theorem spec_ValueOk.calls (k : Nat) (aa : Int) (ae : Int) (ah : Int) (ai : ByteArray) (bc : Option Addr) (aZ : Nat) (ac : List (S33)) (bO : Option Addr) (bI : Nat) (ab : List ByteArray) (r : Bool) (w : World) (cK : Kd.C k33 w bc ac.length ac) (cM : ac.length ≤ aZ) (cN : Kd.C Kd.string w bO ab.length ab) (cO : ab.length ≤ bI) (h : spec_ValueOk.f k aa ae ah ai ac ab = some r) :
  Calls Tryd.prog 7 #[.agg #[.int .i64 aa, .int .i64 ae, .int .i64 ah, .string ai, .slice bc ac.length aZ, .slice bO ab.length bI]] w fun e w' => e = .returned (.bool r) ∧ Below w.heap.size w w' := by
 have m0 := Tryd.underlying33; have dx := zA cK; have eg := zA cM; clear cK cM; have di := zA cN; have em := zA cO; clear cN cO; have HB := zA (yG w.heap.size w); have H : ((spec_ValueSize.f k aa ae ah ai ac ab).bind fun wF => (if wF ≤ 200 then ((spec_l7Deep.f k aa ae ah ai ac ab).bind fun yk => (if yk ≤ 20 then ((spec_l7All.f k aa ae ah ai ac ab).bind fun Kz => (some Kz)) else (some false))) else (some false))) = some r := h; clear h; replace H := Option.bind_eq_some_iff.mp H; obtain ⟨wF, A20, H⟩ := H; have A2 := zA A20; clear A20; by_cases c3 : wF ≤ 200
 ·rw [if_pos c3] at H; have i2 : decide (wF ≤ 200) = true := yD c3; clear c3; replace H := Option.bind_eq_some_iff.mp H; obtain ⟨yk, A40, H⟩ := H; have A4 := zA A40; clear A40; by_cases c5 : yk ≤ 20
  ·rw [if_pos c5] at H; have dI : decide (yk ≤ 20) = true := yD c5; clear c5; replace H := Option.bind_eq_some_iff.mp H; obtain ⟨Kz, A60, H⟩ := H; have A6 := zA A60; clear A60; obtain rfl := yF H; go_enter Tryd.func7, Tryd.ntmps7; go_wp2_with (first | ((with_reducible refine zT (N := 1) rfl ?_); refine zW (by rfl) (N := 1) (by rfl) (cs := #[.int .i64 aa, .int .i64 ae, .int .i64 ah, .string ai, .slice bc ac.length aZ, .slice bO ab.length bI]) (t := 33) apF ?_; intro Rs hg w7 hbox hb; have lE := zA (hbox); have Rt := zA (gwl hg (zR apA)); have BM := zA (gwl hg (zR apA)); replace HB := zA (zQ apA hb); clear hb hbox hg; obtain ⟨_, _, _, _, _, _, _, _, _, _, _, _⟩ := zb6 lE.out) | ((with_reducible refine zV (f := 13) rfl ?_); refine goesL_ (some 4) rfl rfl Tryd.func13 (by kernel_rfl) rfl #[.agg #[.int .i64 aa, .int .i64 ae, .int .i64 ah, .string ai, .slice bc ac.length aZ, .slice bO ab.length bI]] rfl apC ?_; (with_reducible refine (spec_ValueSize.calls k aa ae ah ai _ _ ac _ _ ab wF _ ?side1 ?side2 ?side3 ?side4 A2.out).mono ?_); (case side1 => exact vc (Kd.C_below dx.out HB.out)); (case side2 => exact eg.out); (case side3 => exact vc (Kd.C_below di.out HB.out)); (case side4 => exact em.out); rintro e w9 ⟨rfl, hb⟩; refine ⟨_, rfl, ?_⟩; replace lE := zA (zP (vwB lE.out) hb); replace HB := zA (zQ apBJ hb); (try clear hb hk hi); obtain ⟨_, _, _, _, _, _, _, _, _, _, _, _⟩ := zb6 lE.out) | (go_at_call 19; (with_reducible refine (spec_l7Deep.calls k aa ae ah ai _ _ ac _ _ ab yk _ ?side1 ?side2 ?side3 ?side4 A4.out).mono ?_); (case side1 => exact vc (Kd.C_below dx.out HB.out)); (case side2 => exact eg.out); (case side3 => exact vc (Kd.C_below di.out HB.out)); (case side4 => exact em.out); rintro e w11 ⟨rfl, hb⟩; replace lE := zA (zP (vwB lE.out) hb); replace HB := zA (zQ apBJ hb); (try clear hb hk hi); obtain ⟨_, _, _, _, _, _, _, _, _, _, _, _⟩ := zb6 lE.out) | (go_at_call 20; (with_reducible refine (spec_l7All.calls k aa ae ah ai _ _ ac _ _ ab Kz _ ?side1 ?side2 ?side3 ?side4 A6.out).mono ?_); (case side1 => exact vc (Kd.C_below dx.out HB.out)); (case side2 => exact eg.out); (case side3 => exact vc (Kd.C_below di.out HB.out)); (case side4 => exact em.out); rintro e w13 ⟨rfl, hb⟩; replace HB := zA (zQ apA hb); (try clear hb hk hi)))
   go_ret
   exact ⟨apE, apA⟩
  ·rw [if_neg c5] at H; have dI : decide (yk ≤ 20) = false := decide_eq_false c5; clear c5; obtain rfl := yF H; go_enter Tryd.func7, Tryd.ntmps7; go_wp2_with (first | ((with_reducible refine zT (N := 1) rfl ?_); refine zW (by rfl) (N := 1) (by rfl) (cs := #[.int .i64 aa, .int .i64 ae, .int .i64 ah, .string ai, .slice bc ac.length aZ, .slice bO ab.length bI]) (t := 33) apF ?_; intro Rs hg w14 hbox hb; have lE := zA (hbox); have Rt := zA (gwl hg (zR apA)); have BM := zA (gwl hg (zR apA)); replace HB := zA (zQ apA hb); clear hb hbox hg; obtain ⟨_, _, _, _, _, _, _, _, _, _, _, _⟩ := zb6 lE.out) | ((with_reducible refine zV (f := 13) rfl ?_); refine goesL_ (some 4) rfl rfl Tryd.func13 (by kernel_rfl) rfl #[.agg #[.int .i64 aa, .int .i64 ae, .int .i64 ah, .string ai, .slice bc ac.length aZ, .slice bO ab.length bI]] rfl apC ?_; (with_reducible refine (spec_ValueSize.calls k aa ae ah ai _ _ ac _ _ ab wF _ ?side1 ?side2 ?side3 ?side4 A2.out).mono ?_); (case side1 => exact vc (Kd.C_below dx.out HB.out)); (case side2 => exact eg.out); (case side3 => exact vc (Kd.C_below di.out HB.out)); (case side4 => exact em.out); rintro e w16 ⟨rfl, hb⟩; refine ⟨_, rfl, ?_⟩; replace lE := zA (zP (vwB lE.out) hb); replace HB := zA (zQ apBJ hb); (try clear hb hk hi); obtain ⟨_, _, _, _, _, _, _, _, _, _, _, _⟩ := zb6 lE.out) | (go_at_call 19; (with_reducible refine (spec_l7Deep.calls k aa ae ah ai _ _ ac _ _ ab yk _ ?side1 ?side2 ?side3 ?side4 A4.out).mono ?_); (case side1 => exact vc (Kd.C_below dx.out HB.out)); (case side2 => exact eg.out); (case side3 => exact vc (Kd.C_below di.out HB.out)); (case side4 => exact em.out); rintro e w18 ⟨rfl, hb⟩; replace HB := zA (zQ apA hb); (try clear hb hk hi)))
   go_ret
   exact ⟨apE, apA⟩
 ·rw [if_neg c3] at H; have i2 : decide (wF ≤ 200) = false := decide_eq_false c3; clear c3; obtain rfl := yF H; go_enter Tryd.func7, Tryd.ntmps7; go_wp2_with (first | ((with_reducible refine zT (N := 1) rfl ?_); refine zW (by rfl) (N := 1) (by rfl) (cs := #[.int .i64 aa, .int .i64 ae, .int .i64 ah, .string ai, .slice bc ac.length aZ, .slice bO ab.length bI]) (t := 33) apF ?_; intro Rs hg w19 hbox hb; have lE := zA (hbox); have Rt := zA (gwl hg (zR apA)); have BM := zA (gwl hg (zR apA)); replace HB := zA (zQ apA hb); clear hb hbox hg; obtain ⟨_, _, _, _, _, _, _, _, _, _, _, _⟩ := zb6 lE.out) | ((with_reducible refine zV (f := 13) rfl ?_); refine goesL_ (some 4) rfl rfl Tryd.func13 (by kernel_rfl) rfl #[.agg #[.int .i64 aa, .int .i64 ae, .int .i64 ah, .string ai, .slice bc ac.length aZ, .slice bO ab.length bI]] rfl apC ?_; (with_reducible refine (spec_ValueSize.calls k aa ae ah ai _ _ ac _ _ ab wF _ ?side1 ?side2 ?side3 ?side4 A2.out).mono ?_); (case side1 => exact vc (Kd.C_below dx.out HB.out)); (case side2 => exact eg.out); (case side3 => exact vc (Kd.C_below di.out HB.out)); (case side4 => exact em.out); rintro e w21 ⟨rfl, hb⟩; refine ⟨_, rfl, ?_⟩; replace HB := zA (zQ apA hb); (try clear hb hk hi)))
  go_ret
  exact ⟨apE, apA⟩

end Go.Proofs.YtoajejdicfabmaaDoor.Q

namespace Go.Proofs.YtoajejdicfabmaaDoor.Q
open Go.RowKit Go.Proofs.YtoajejdicfabmaaDoorW.PrintWords Go.Proofs.YtoajejdicfabmaaDoorW.PrintLast Go.Proofs.YtoajejdicfabmaaDoorW.PrintMore Go.Proofs.YtoajejdicfabmaaDoorX
attribute [local go_sem] max2_int min2_int max_two min_two max_three min_three max_four min_four   -- for this text's walks alone
set_option linter.unusedVariables false
set_option linter.unusedSimpArgs false

attribute [local go_sem high] eqA30
def impl_DecOk.f (aa : Int) (ae : Int) : Option (Bool) := if (-99999999) ≤ aa then (if aa ≤ 99999999 then (if (-8) ≤ ae then (if ae ≤ 8 then (if (Int.tmod aa 10) = 0 then (some (aa == 0 && (ae == 0))) else (some true)) else (some false)) else (some false)) else (some false)) else (some false)
set_option maxHeartbeats 8000000 in
set_option maxRecDepth 100000 in
theorem impl_DecOk.calls (aa : Int) (ae : Int) (r : Bool) (w : World) (h : impl_DecOk.f aa ae = some r) :
  Calls Tryd.prog 35 #[.agg #[.int .i64 aa, .int .i64 ae]] w fun e w' => e = .returned (.bool r) ∧ Below w.heap.size w w' := by
 have sn := Tryd.underlying30; have HB := zA (yG w.heap.size w); have H : (if (-99999999) ≤ aa then (if aa ≤ 99999999 then (if (-8) ≤ ae then (if ae ≤ 8 then (if (Int.tmod aa 10) = 0 then (some (aa == 0 && (ae == 0))) else (some true)) else (some false)) else (some false)) else (some false)) else (some false)) = some r := h; clear h; by_cases c2 : (-99999999) ≤ aa
 ·rw [if_pos c2] at H; have ka : decide ((-99999999) ≤ aa) = true := yD c2; clear c2; by_cases c3 : aa ≤ 99999999
  ·rw [if_pos c3] at H; have i2 : decide (aa ≤ 99999999) = true := yD c3; clear c3; by_cases c4 : (-8) ≤ ae
   ·rw [if_pos c4] at H; have me : decide ((-8) ≤ ae) = true := yD c4; clear c4; by_cases c5 : ae ≤ 8
    ·rw [if_pos c5] at H; have dI : decide (ae ≤ 8) = true := yD c5; clear c5; by_cases c6 : (Int.tmod aa 10) = 0
     ·rw [if_pos c6] at H; have oC : ((Int.tmod aa 10) == 0) = true := beq_iff_eq.mpr c6; have wE : ((Int.tmod aa 10) != 0) = false := bne_eq_false_iff_eq.mpr c6; clear c6; obtain rfl := yF H; go_enter Tryd.func35, Tryd.ntmps35; go_wp2_with (first | ((with_reducible refine zT (N := 1) rfl ?_); refine zW (by rfl) (N := 1) (by rfl) (cs := #[.int .i64 aa, .int .i64 ae]) (t := 30) apF ?_; intro BN hg w7 hbox hb; have mW := zA (hbox); have BO := zA (gwl hg (zR apA)); have mX := zA (gwl hg (zR apA)); replace HB := zA (zQ apA hb); clear hb hbox hg; obtain ⟨_, _, _, _⟩ := zb2 mW.out))
      go_ret
      exact ⟨apE, apAA⟩
     ·rw [if_neg c6] at H; have oC : ((Int.tmod aa 10) == 0) = false := beq_eq_false_iff_ne.mpr c6; have wE : ((Int.tmod aa 10) != 0) = true := bne_iff_ne.mpr c6; obtain rfl := yF H; go_enter Tryd.func35, Tryd.ntmps35; go_wp2_with (first | ((with_reducible refine zT (N := 1) rfl ?_); refine zW (by rfl) (N := 1) (by rfl) (cs := #[.int .i64 aa, .int .i64 ae]) (t := 30) apF ?_; intro BN hg w9 hbox hb; have mW := zA (hbox); have BO := zA (gwl hg (zR apA)); have mX := zA (gwl hg (zR apA)); replace HB := zA (zQ apA hb); clear hb hbox hg; obtain ⟨_, _, _, _⟩ := zb2 mW.out))
      go_ret
      exact ⟨apE, apAA⟩
    ·rw [if_neg c5] at H; have dI : decide (ae ≤ 8) = false := decide_eq_false c5; clear c5; obtain rfl := yF H; go_enter Tryd.func35, Tryd.ntmps35; go_wp2_with (first | ((with_reducible refine zT (N := 1) rfl ?_); refine zW (by rfl) (N := 1) (by rfl) (cs := #[.int .i64 aa, .int .i64 ae]) (t := 30) apF ?_; intro BN hg w11 hbox hb; have mW := zA (hbox); have BO := zA (gwl hg (zR apA)); have mX := zA (gwl hg (zR apA)); replace HB := zA (zQ apA hb); clear hb hbox hg; obtain ⟨_, _, _, _⟩ := zb2 mW.out))
     go_ret
     exact ⟨apE, apAA⟩
   ·rw [if_neg c4] at H; have me : decide ((-8) ≤ ae) = false := decide_eq_false c4; clear c4; obtain rfl := yF H; go_enter Tryd.func35, Tryd.ntmps35; go_wp2_with (first | ((with_reducible refine zT (N := 1) rfl ?_); refine zW (by rfl) (N := 1) (by rfl) (cs := #[.int .i64 aa, .int .i64 ae]) (t := 30) apF ?_; intro BN hg w13 hbox hb; have mW := zA (hbox); have BO := zA (gwl hg (zR apA)); have mX := zA (gwl hg (zR apA)); replace HB := zA (zQ apA hb); clear hb hbox hg; obtain ⟨_, _, _, _⟩ := zb2 mW.out))
    go_ret
    exact ⟨apE, apAA⟩
  ·rw [if_neg c3] at H; have i2 : decide (aa ≤ 99999999) = false := decide_eq_false c3; clear c3; obtain rfl := yF H; go_enter Tryd.func35, Tryd.ntmps35; go_wp2_with (first | ((with_reducible refine zT (N := 1) rfl ?_); refine zW (by rfl) (N := 1) (by rfl) (cs := #[.int .i64 aa, .int .i64 ae]) (t := 30) apF ?_; intro BN hg w15 hbox hb; have mW := zA (hbox); have BO := zA (gwl hg (zR apA)); have mX := zA (gwl hg (zR apA)); replace HB := zA (zQ apA hb); clear hb hbox hg; obtain ⟨_, _, _, _⟩ := zb2 mW.out))
   go_ret
   exact ⟨apE, apAA⟩
 ·rw [if_neg c2] at H; have ka : decide ((-99999999) ≤ aa) = false := decide_eq_false c2; clear c2; obtain rfl := yF H; go_enter Tryd.func35, Tryd.ntmps35; go_wp2_with (first | ((with_reducible refine zT (N := 1) rfl ?_); refine zW (by rfl) (N := 1) (by rfl) (cs := #[.int .i64 aa, .int .i64 ae]) (t := 30) apF ?_; intro BN hg w17 hbox hb; have mW := zA (hbox); have BO := zA (gwl hg (zR apA)); have mX := zA (gwl hg (zR apA)); replace HB := zA (zQ apA hb); clear hb hbox hg; obtain ⟨_, _, _, _⟩ := zb2 mW.out))
  go_ret
  exact ⟨apE, apAA⟩

end Go.Proofs.YtoajejdicfabmaaDoor.Q
