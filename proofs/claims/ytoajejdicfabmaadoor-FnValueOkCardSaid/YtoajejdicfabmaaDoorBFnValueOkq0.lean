-- laid by a program of this session (wip/tools) out of the translation; Lean checks it
import Derived.Test.YtoajejdicfabmaaDoorProg
import Derived.Test.YtoajejdicfabmaaDoorBFnValueOkX
import Derived.Below
import Derived.Deep.Draws
import Derived.Deep.AppendLies
import Derived.Maps.AppendAt
import Derived.OwnWalk
import Derived.Laws.BytesArg
import Derived.Laws.MakeOwn
import Derived.Laws.OwnMore
import Derived.Deep.OwnRows
import Derived.Tactics
import Derived.Lib.ConvBytes
import Derived.Laws.Slices
import Derived.WalkKit
import Derived.KernelRfl
import Derived.RowKit3
import Derived.Deep.LoopGhost
import Derived.Deep.QuietTactic
import Derived.BigQuiet
import Derived.WideLaws
import Derived.Deep.DeepCutAuto
import Derived.Deep.CutBlock
import Derived.Deep.RegionHeld3
import Derived.Laws.Rows
import Derived.Lib.AppendStr
import Derived.ArgAppend
import Derived.Laws.IdiomCopy
import Derived.OrdersHeld
import Derived.Laws.BitsLemmas
import Derived.RowKit
import Derived.Test.YtoajejdicfabmaaDoorBFnValueOkWWords
import Derived.Test.YtoajejdicfabmaaDoorBFnValueOkWLast
import Derived.Test.YtoajejdicfabmaaDoorBFnValueOkWTab
import Derived.Test.YtoajejdicfabmaaDoorBFnValueOkWFour
import Derived.Test.YtoajejdicfabmaaDoorBFnValueOkWQPut
import Derived.Test.YtoajejdicfabmaaDoorBFnValueOkWApart
import Derived.Test.YtoajejdicfabmaaDoorBFnValueOkWArr
import Derived.Test.YtoajejdicfabmaaDoorBFnValueOkWZeros
import Derived.Test.YtoajejdicfabmaaDoorBFnValueOkWFoot
import Derived.Test.YtoajejdicfabmaaDoorBFnValueOkWKept
import Derived.Test.YtoajejdicfabmaaDoorBFnValueOkWShare
import Derived.Test.YtoajejdicfabmaaDoorBFnValueOkWN
import Derived.Test.YtoajejdicfabmaaDoorBFnValueOkWFootNe
import Derived.Test.YtoajejdicfabmaaDoorBFnValueOkWAt
import Derived.Test.YtoajejdicfabmaaDoorBFnValueOkWEqStruct
import Derived.Test.YtoajejdicfabmaaDoorBFnValueOkWRepsOne
import Derived.Test.YtoajejdicfabmaaDoorBFnValueOkWInv
import Derived.Test.YtoajejdicfabmaaDoorBFnValueOkWInvWords
import Derived.Test.YtoajejdicfabmaaDoorBFnValueOkWGuard
import Derived.Test.YtoajejdicfabmaaDoorBFnValueOkWNEv
import Derived.Test.YtoajejdicfabmaaDoorBFnValueOkWMore
namespace Go.Proofs.YtoajejdicfabmaaDoor.Q
open Go.RowKit Go.Proofs.YtoajejdicfabmaaDoorW.PrintWords Go.Proofs.YtoajejdicfabmaaDoorW.PrintLast Go.Proofs.YtoajejdicfabmaaDoorW.PrintMore Go.Proofs.YtoajejdicfabmaaDoorX
attribute [local go_sem] max2_int min2_int max_two min_two max_three min_three max_four min_four   -- for this text's walks alone
set_option linter.unusedVariables false
set_option linter.unusedSimpArgs false



abbrev zA := @Aside0.mk
abbrev zB := @blk_drewN
abbrev zC := @blk_alloc
abbrev zD := @blk_drew
abbrev zE := @pw_below_drewN
abbrev zF := @below_drew1
abbrev zG := @below_alloc
abbrev zH := @below_set
abbrev zJ := @blk_cell
abbrev zK := @blk_frozen
abbrev zL := @List.setIfInBounds_toArray
abbrev zM := @List.set_cons_zero
abbrev zN := @List.set_cons_succ
abbrev zP := @blk_below
abbrev zQ := @below_step
abbrev zR := @below_size
abbrev zS := @World.block_lt_of_cell?
abbrev zT := @gate_dst
abbrev zV := @gate_callee
abbrev zW := @box_event
abbrev zX := @List.map_toArray
abbrev zZ := @List.length_drop
abbrev yA := @List.length_take
abbrev yB := @List.map_cons
abbrev yC := @List.map_nil
abbrev yD := @decide_eq_true
abbrev yE := @of_decide_eq_true
abbrev yF := @Option.some.inj
abbrev yG := @Below.refl
abbrev yH := @Nat.le_refl
theorem apV {p : Prop} (h : p := by first | exact HK.out.1 | exact (show Kept w _ (fun k_ => P0_5_ k_) from by repeat (first | (with_reducible first | exact HK.out | apply Kept.alloc | apply Kept.drewN | apply Kept.drew | refine Kept.setCell ?_ (.inr GW156.out) _ | refine Kept.setCell ?_ (.inr GW157.out) _ | refine Kept.setCell ?_ (.inr GW158.out) _ | refine Kept.setCell ?_ (.inr GW161.out) _) | exact HK.out)).1) : p := h
theorem apF {p : Prop} (h : p := by repeat (first | (with_reducible first | exact HK.out | apply Kept.alloc | apply Kept.drewN | apply Kept.drew | refine Kept.setCell ?_ (.inr GW156.out) _ | refine Kept.setCell ?_ (.inr GW157.out) _ | refine Kept.setCell ?_ (.inr GW158.out) _ | refine Kept.setCell ?_ (.inr GW161.out) _) | exact HK.out)) : p := h
theorem apN {p : Prop} (h : p := by repeat (first | (with_reducible first | exact HB.out | apply zG | apply zE | apply zF | refine zH ?_ GE156.out | refine zH ?_ GE157.out | refine zH ?_ GE158.out | refine zH ?_ GE161.out) | exact HB.out)) : p := h
theorem apn {p : Prop} (h : p := by repeat (first | (with_reducible first | exact HK.out | apply Kept.alloc | apply Kept.drewN | apply Kept.drew | refine Kept.setCell ?_ (.inr GW156.out) _ | refine Kept.setCell ?_ (.inr GW157.out) _ | refine Kept.setCell ?_ (.inr GW158.out) _) | exact HK.out)) : p := h
theorem apk {p : Prop} (h : p := by repeat (first | (with_reducible first | exact HB.out | apply zG | apply zE | apply zF | refine zH ?_ (IsS66.ge HI0.out) | refine zH ?_ GE212.out | refine zH ?_ GE217.out) | exact HB.out)) : p := h
theorem apl {p : Prop} (h : p := by repeat (first | (with_reducible first | exact HB.out | apply zG | apply zE | apply zF | refine zH ?_ (IsS66.ge HI0.out) | refine zH ?_ GE268.out | refine zH ?_ GE282.out) | exact HB.out)) : p := h
theorem apo {p : Prop} (h : p := by repeat (first | (with_reducible first | exact HB.out | apply zG | apply zE | apply zF | refine zH ?_ GE156.out | refine zH ?_ GE157.out | refine zH ?_ GE158.out) | exact HB.out)) : p := h
theorem apc {p : Prop} (h : p := by repeat (first | (with_reducible first | exact HI0.out | apply IsS66.alloc | apply IsS66.drewN | apply IsS66.drew | apply IsS66.set_1 | refine IsS66.far ?_ NB0_212.out _ | refine IsS66.far ?_ NB0_217.out _) | exact HI0.out)) : p := h
theorem apd {p : Prop} (h : p := by repeat (first | (with_reducible first | exact HI0.out | apply IsS66.alloc | apply IsS66.drewN | apply IsS66.drew | apply IsS66.set_1 | refine IsS66.far ?_ NB0_268.out _ | refine IsS66.far ?_ NB0_282.out _) | exact HI0.out)) : p := h
theorem apT {p : Prop} (h : p := by repeat (first | (with_reducible first | exact HK.out | apply KeepBut.set_ | apply keep_drewN | apply keep_drew | apply keep_alloc | refine keep_far ?_ GW212.out _ | refine keep_far ?_ GW217.out _) | exact HK.out)) : p := h
theorem apa {p : Prop} (h : p := by repeat (first | (with_reducible first | exact HK.out | apply KeepBut.set_ | apply keep_drewN | apply keep_drew | apply keep_alloc | refine keep_far ?_ GW268.out _ | refine keep_far ?_ GW282.out _) | exact HK.out)) : p := h
theorem apm {p : Prop} (h : p := by repeat (first | (with_reducible first | exact HB.out | apply zG | apply zE | apply zF | refine zH ?_ (IsS66.ge HI0.out) | refine zH ?_ GE116.out) | exact HB.out)) : p := h
theorem apR {p : Prop} (h : p := by repeat (first | (with_reducible first | exact HB.out | apply zG | apply zE | apply zF | refine zH ?_ GE321.out | refine zH ?_ GE322.out) | exact HB.out)) : p := h
theorem apZ {p : Prop} (h : p := by repeat (first | (with_reducible first | exact HI0.out | apply IsS66.alloc | apply IsS66.drewN | apply IsS66.drew | apply IsS66.set_1 | refine IsS66.far ?_ NB0_268.out _) | exact HI0.out)) : p := h
theorem apf {p : Prop} (h : p := by repeat (first | (with_reducible first | exact HI0.out | apply IsS66.alloc | apply IsS66.drewN | apply IsS66.drew | apply IsS66.set_1 | refine IsS66.far ?_ NB0_116.out _) | exact HI0.out)) : p := h
theorem aph {p : Prop} (h : p := by repeat (first | (with_reducible first | exact HI0.out | apply IsS66.alloc | apply IsS66.drewN | apply IsS66.drew | apply IsS66.set_1 | refine IsS66.far ?_ NB0_212.out _) | exact HI0.out)) : p := h
theorem apH {p : Prop} (h : p := by repeat (first | (with_reducible first | exact HK.out | apply KeepBut.set_ | apply keep_drewN | apply keep_drew | apply keep_alloc | refine keep_far ?_ GW268.out _) | exact HK.out)) : p := h
theorem apW {p : Prop} (h : p := by repeat (first | (with_reducible first | exact HK.out | apply KeepBut.set_ | apply keep_drewN | apply keep_drew | apply keep_alloc | refine keep_far ?_ GW116.out _) | exact HK.out)) : p := h
theorem ape {p : Prop} (h : p := by repeat (first | (with_reducible first | exact HK.out | apply KeepBut.set_ | apply keep_drewN | apply keep_drew | apply keep_alloc | refine keep_far ?_ GW212.out _) | exact HK.out)) : p := h
theorem apb {p : Prop} (h : p := by repeat (first | (with_reducible first | exact HB.out | apply zG | apply zE | apply zF | refine zH ?_ (IsS66.ge HI0.out)) | exact HB.out)) : p := h
theorem apX {p : Prop} (h : p := by repeat (first | (with_reducible first | exact HB.out | apply zG | apply zE | apply zF | refine zH ?_ GE363.out) | exact HB.out)) : p := h
theorem apg {p : Prop} (h : p := by repeat (first | (with_reducible first | exact HB.out | apply zG | apply zE | apply zF | refine zH ?_ GE384.out) | exact HB.out)) : p := h
theorem apL {p : Prop} (h : p := by repeat (first | (with_reducible first | exact HI0.out | apply IsS66.alloc | apply IsS66.drewN | apply IsS66.drew | apply IsS66.set_1) | exact HI0.out)) : p := h
theorem apJ {p : Prop} (h : p := by repeat (first | (with_reducible first | exact HK.out | apply KeepBut.set_ | apply keep_drewN | apply keep_drew | apply keep_alloc) | exact HK.out)) : p := h
theorem apj {p : Prop} (h : p := by first | exact Kd.R_nil _ _ _ _ _ | exact Kd.N_nil _ _ _ _ _ | exact Kd.V_nil _ _ _ _ _ | exact Kd.Q_nil _ _ _ _ _ | exact Kd.S_nil _ _ _ _ _) : p := h
theorem apD {p : Prop} (h : p := by (try simp only [zX, yB, yC]); first | done | rfl | (simp only [zZ, yA]; rfl)) : p := h
theorem apA {p : Prop} (h : p := by repeat (first | (with_reducible first | exact HB.out | apply zG | apply zE | apply zF) | exact HB.out)) : p := h
theorem apG {p : Prop} (h : p := by (with_reducible repeat (first | refine zB ?_ _ | refine zD ?_ | refine zC ?_ _)); exact BK156.out) : p := h
theorem apI {p : Prop} (h : p := by (with_reducible repeat (first | refine zB ?_ _ | refine zD ?_ | refine zC ?_ _)); exact BK157.out) : p := h
theorem apK {p : Prop} (h : p := by (with_reducible repeat (first | refine zB ?_ _ | refine zD ?_ | refine zC ?_ _)); exact BK158.out) : p := h
theorem apM {p : Prop} (h : p := by (with_reducible repeat (first | refine zB ?_ _ | refine zD ?_ | refine zC ?_ _)); exact BK268.out) : p := h
theorem apP {p : Prop} (h : p := by (with_reducible repeat (first | refine zB ?_ _ | refine zD ?_ | refine zC ?_ _)); exact BK161.out) : p := h
theorem apQ {p : Prop} (h : p := by (with_reducible repeat (first | refine zB ?_ _ | refine zD ?_ | refine zC ?_ _)); exact BK322.out) : p := h
theorem apS {p : Prop} (h : p := by (with_reducible repeat (first | refine zB ?_ _ | refine zD ?_ | refine zC ?_ _)); exact BK321.out) : p := h
theorem apU {p : Prop} (h : p := by (with_reducible repeat (first | refine zB ?_ _ | refine zD ?_ | refine zC ?_ _)); exact BK212.out) : p := h
theorem apY {p : Prop} (h : p := by (with_reducible repeat (first | refine zB ?_ _ | refine zD ?_ | refine zC ?_ _)); exact BK116.out) : p := h
theorem api {p : Prop} (h : p := by (with_reducible repeat (first | refine zB ?_ _ | refine zD ?_ | refine zC ?_ _)); exact BK384.out) : p := h
theorem apE {p : Prop} (h : p := by first | rfl | (simp [errW_none, errW_some] <;> rfl) | (simp [*, errW_none, errW_some] <;> rfl)) : p := h
theorem apB {p : Prop} (h : p := by first | rfl | (simp; done) | (simp [*]; done) | (simp [isEmpty_bne]; done)) : p := h
theorem apO {p : Prop} (h : p := by repeat (first | exact Drawn0.refl _ | apply Drawn0.step)) : p := h
theorem apC {p : Prop} (h : p := by first | (with_reducible assumption) | assumption) : p := h
theorem vwN {a p : Prop} (x : a) (h : a → p := by (intro x_; (with_reducible repeat (first | apply Kd.N_alloc | apply Kd.N_drewN | apply Kd.N_drew)); exact x_)) : p := h x
theorem vwR {a p : Prop} (x : a) (h : a → p := by (intro x_; (with_reducible repeat (first | apply Kd.R_alloc | apply Kd.R_drewN | apply Kd.R_drew)); exact x_)) : p := h x
theorem vwV {a p : Prop} (x : a) (h : a → p := by (intro x_; (with_reducible repeat (first | apply Kd.V_alloc | apply Kd.V_drewN | apply Kd.V_drew)); exact x_)) : p := h x
theorem vc {a p : Prop} (x : a) (h : a → p := by (intro x_; repeat (first | exact x_ | (with_reducible refine Kd.C_alloc ?_ _) | (with_reducible refine Kd.C_drewN ?_ _) | (with_reducible refine Kd.C_drew ?_)))) : p := h x
abbrev zn (v : Value) (k_ : Nat) : Prop := some k_ ≠ v.ownBlock
theorem zb1 {w : World} {g : Nat} {t : TypeId} {c0 : Value} (h : w.heap[g]? = some (.cells #[c0] t (0, 0))) : w.cell? ⟨g, 0, none⟩ = some c0 ∧ w.frozen? ⟨g, 0, none⟩ = false := by
  have hc := @blk_cell w g t #[c0] h
  have hf := @blk_frozen w g t #[c0] h
  exact ⟨hc 0, hf 0⟩
theorem zb2 {w : World} {g : Nat} {t : TypeId} {c0 c1 : Value} (h : w.heap[g]? = some (.cells #[c0, c1] t (0, 0))) : w.cell? ⟨g, 0, none⟩ = some c0 ∧ w.cell? ⟨g, 1, none⟩ = some c1 ∧ w.frozen? ⟨g, 0, none⟩ = false ∧ w.frozen? ⟨g, 1, none⟩ = false := by
  have hc := @blk_cell w g t #[c0, c1] h
  have hf := @blk_frozen w g t #[c0, c1] h
  exact ⟨hc 0, hc 1, hf 0, hf 1⟩
theorem zb6 {w : World} {g : Nat} {t : TypeId} {c0 c1 c2 c3 c4 c5 : Value} (h : w.heap[g]? = some (.cells #[c0, c1, c2, c3, c4, c5] t (0, 0))) : w.cell? ⟨g, 0, none⟩ = some c0 ∧ w.cell? ⟨g, 1, none⟩ = some c1 ∧ w.cell? ⟨g, 2, none⟩ = some c2 ∧ w.cell? ⟨g, 3, none⟩ = some c3 ∧ w.cell? ⟨g, 4, none⟩ = some c4 ∧ w.cell? ⟨g, 5, none⟩ = some c5 ∧ w.frozen? ⟨g, 0, none⟩ = false ∧ w.frozen? ⟨g, 1, none⟩ = false ∧ w.frozen? ⟨g, 2, none⟩ = false ∧ w.frozen? ⟨g, 3, none⟩ = false ∧ w.frozen? ⟨g, 4, none⟩ = false ∧ w.frozen? ⟨g, 5, none⟩ = false := by
  have hc := @blk_cell w g t #[c0, c1, c2, c3, c4, c5] h
  have hf := @blk_frozen w g t #[c0, c1, c2, c3, c4, c5] h
  exact ⟨hc 0, hc 1, hc 2, hc 3, hc 4, hc 5, hf 0, hf 1, hf 2, hf 3, hf 4, hf 5⟩
def errW : Option Int → Value
 | none => .nilIface
 | some c => .iface 0 (.int .i64 c)
theorem errW_none : errW none = .nilIface := rfl
theorem errW_some (c : Int) : errW (some c) = .iface 0 (.int .i64 c) := rfl

theorem info3 : (Tryd.prog.info? 3).map (fun i => (i.zero, i.size, i.bytes)) = some (some (.int .i64 0), 1, 8) := by kernel_rfl
theorem info5 : (Tryd.prog.info? 5).map (fun i => (i.zero, i.size, i.bytes)) = some (some (.int .u8 0), 1, 1) := by kernel_rfl
theorem info9 : (Tryd.prog.info? 9).map (fun i => (i.zero, i.size, i.bytes)) = some (some (.string ⟨#[]⟩), 1, 16) := by kernel_rfl
theorem info33 : (Tryd.prog.info? 33).map (fun i => (i.zero, i.size, i.bytes)) = some (some (.agg #[(.int .i64 0), (.int .i64 0), (.int .i64 0), (.string ⟨#[]⟩), (.slice none 0 0), (.slice none 0 0)]), 6, 88) := by kernel_rfl
-- the values' own types
structure S30 where
 f0 : Int
 f1 : Int
def z30 : S30 := ⟨(0 : Int), (0 : Int)⟩
def k30 : Kd S30 := Kd.iso (Kd.pair (Kd.int .i64) (Kd.int .i64)) (fun x : S30 => (x.f0, x.f1))
theorem k30_open {w : World} {x : S30} {cs : List Value} (h : k30.K w x cs) : cs = [.int .i64 x.f0, .int .i64 x.f1] := by
 obtain ⟨_, _, rfl, rfl, rfl⟩ := h
 exact rfl
theorem k30_openM {w : World} {base : Nat} {ok : Nat → Prop} {x : S30} {cs : List Value} (h : k30.M w base ok x cs) : cs = [.int .i64 x.f0, .int .i64 x.f1] := by
 obtain ⟨_, _, rfl, rfl, rfl⟩ := h
 exact rfl
theorem k30_mk (w : World) (x : S30)  : k30.K w x [.int .i64 x.f0, .int .i64 x.f1] := ⟨[.int .i64 x.f0], [.int .i64 x.f1], rfl, rfl, rfl⟩
theorem k30_mkM (w : World) (base : Nat) (ok : Nat → Prop) (x : S30)  : k30.M w base ok x [.int .i64 x.f0, .int .i64 x.f1] := ⟨[.int .i64 x.f0], [.int .i64 x.f1], rfl, rfl, rfl⟩
theorem k30_mkF (W : World) (ok : Nat → Prop) (x : S30) : Kd.FK k30 W ok x [.int .i64 x.f0, .int .i64 x.f1] := fun W2 _ => k30_mk W2 x
def rd_T30 (xs : List S30) (i : Int) : S30 := xs.getD i.toNat z30
theorem at_T30 {w : World} {A : Option Addr} {n : Nat} {xs : List S30} (h : Kd.C k30 w A n xs) (i : Int) (h0 : 0 ≤ i) (h1 : i < n) : ∃ ad , A = some ad ∧ w.cell? (ad.add (i.toNat * 2)) = some (.int .i64 (rd_T30 xs i).f0) ∧ w.cell? ⟨(ad.add (i.toNat * 2)).block, (ad.add (i.toNat * 2)).off + 1, none⟩ = some (.int .i64 (rd_T30 xs i).f1) := by
 obtain ⟨ad, c, e, _, hK, hc0⟩ := Kd.C_get h z30 i h0 h1
 have hc : ∀ j u, c[j]? = some u → w.cell? (ad.add (i.toNat * 2 + j)) = some u := hc0
 obtain rfl := k30_open hK
 exact ⟨ad, e, hc 0 _ rfl, by rw [← add_field _ _ 1 (by omega)]; exact hc 1 _ rfl⟩

def rd_L4 (xs : List (List ByteArray)) (i : Int) : (List ByteArray) := xs.getD i.toNat ([] : List ByteArray)
theorem at_L4 {w : World} {A : Option Addr} {n : Nat} {xs : List (List ByteArray)} (h : Kd.C (Kd.slice 9 Kd.string) w A n xs) (i : Int) (h0 : 0 ≤ i) (h1 : i < n) : ∃ ad A0 c0, A = some ad ∧ w.cell? (ad.add i.toNat) = some (.slice A0 (rd_L4 xs i).length c0) ∧ (rd_L4 xs i).length ≤ c0 ∧ Kd.string.C w A0 (rd_L4 xs i).length (rd_L4 xs i) := by
 obtain ⟨ad, c, e, _, hK, hc0⟩ := Kd.C_get h ([] : List ByteArray) i h0 h1
 have hc : ∀ j u, c[j]? = some u → w.cell? (ad.add (i.toNat * 1 + j)) = some u := hc0
 obtain ⟨A0, c0, rfl, l0, g0⟩ := hK
 exact ⟨ad, A0, c0, e, by have hq := hc 0 _ rfl; rwa [Nat.mul_one, Nat.add_zero] at hq, l0, g0⟩

structure S33 where
 f0 : Int
 f1 : S30
 f2 : ByteArray
 f3 : (List S33)
 f4 : (List ByteArray)
def z33 : S33 := ⟨(0 : Int), z30, (⟨#[]⟩ : ByteArray), ([] : List S33), ([] : List ByteArray)⟩
def F33 (d : Kd S33) : Kd S33 := Kd.iso (Kd.pair (Kd.int .i64) (Kd.pair k30 (Kd.pair Kd.string (Kd.pair (Kd.slice 33 d) (Kd.slice 9 Kd.string))))) (fun x : S33 => (x.f0, x.f1, x.f2, x.f3, x.f4))
theorem mono33 : Kd.Mono F33 := Kd.mono_iso _ (Kd.mono_pair (Kd.mono_const _) (Kd.mono_pair (Kd.mono_const _) (Kd.mono_pair (Kd.mono_const _) (Kd.mono_pair (Kd.mono_slice 33 Kd.mono_id) (Kd.mono_const _)))))
theorem sub33 : Kd.Sub F33 [9, 33] := Kd.sub_iso _ (Kd.sub_pair (Kd.sub_const _ (by decide)) (Kd.sub_pair (Kd.sub_const _ (by decide)) (Kd.sub_pair (Kd.sub_const _ (by decide)) (Kd.sub_pair (Kd.sub_slice 33 (by decide) Kd.sub_id) (Kd.sub_const _ (by decide))))))
theorem sz33 : ∀ n, (Kd.upto F33 6 [9, 33] n).sz = 6 := Kd.upto_sz (fun _ => rfl)
def k33 : Kd S33 := Kd.fix F33 6 [9, 33] sz33 (Kd.upto_E sub33)
theorem k33_open {w : World} {x : S33} {cs : List Value} (h : k33.K w x cs) : ∃ A4 c4 A5 c5, cs = [.int .i64 x.f0, .int .i64 x.f1.f0, .int .i64 x.f1.f1, .string x.f2, .slice A4 x.f3.length c4, .slice A5 x.f4.length c5] ∧ x.f3.length ≤ c4 ∧ k33.C w A4 x.f3.length x.f3 ∧ x.f4.length ≤ c5 ∧ Kd.string.C w A5 x.f4.length x.f4 := by
 obtain ⟨n, h⟩ := h
 cases n with
 | zero => exact h.elim
 | succ n =>
  obtain ⟨_, _, rfl, rfl, ⟨_, _, rfl, s1, ⟨_, _, rfl, rfl, ⟨_, _, rfl, ⟨A4, c4, rfl, l4, g4⟩, ⟨A5, c5, rfl, l5, g5⟩⟩⟩⟩⟩ := h
  obtain rfl := k30_open s1
  exact ⟨A4, c4, A5, c5, rfl, l4, Kd.fix_C g4, l5, g5⟩
theorem k33_openM {w : World} {base : Nat} {ok : Nat → Prop} {x : S33} {cs : List Value} (h : k33.M w base ok x cs) : ∃ v4 v5, cs = [.int .i64 x.f0, .int .i64 x.f1.f0, .int .i64 x.f1.f1, .string x.f2, v4, v5] ∧ k33.R 33 w base ok v4 x.f3 ∧ Kd.string.R 9 w base ok v5 x.f4 := by
 obtain ⟨n, h⟩ := h
 cases n with
 | zero => exact h.elim
 | succ n =>
  obtain ⟨_, _, rfl, rfl, ⟨_, _, rfl, s1, ⟨_, _, rfl, rfl, ⟨_, _, rfl, ⟨v4, rfl, g4⟩, ⟨v5, rfl, g5⟩⟩⟩⟩⟩ := h
  obtain rfl := k30_openM s1
  exact ⟨v4, v5, rfl, Kd.fix_R g4, g5⟩
theorem k33_mk (w : World) (x : S33) {A4 : Option Addr} {c4 : Nat} (l4 : x.f3.length ≤ c4) (g4 : k33.C w A4 x.f3.length x.f3) {A5 : Option Addr} {c5 : Nat} (l5 : x.f4.length ≤ c5) (g5 : Kd.string.C w A5 x.f4.length x.f4) : k33.K w x [.int .i64 x.f0, .int .i64 x.f1.f0, .int .i64 x.f1.f1, .string x.f2, .slice A4 x.f3.length c4, .slice A5 x.f4.length c5] := by
 obtain ⟨n4, q4⟩ := Kd.fix_C_back mono33 g4
 have r4 := Kd.upto_C_le mono33 sz33 (show n4 ≤ n4 by omega) q4
 exact ⟨n4 + 1, ⟨[.int .i64 x.f0], [.int .i64 x.f1.f0, .int .i64 x.f1.f1, .string x.f2, .slice A4 x.f3.length c4, .slice A5 x.f4.length c5], rfl, rfl, ⟨[.int .i64 x.f1.f0, .int .i64 x.f1.f1], [.string x.f2, .slice A4 x.f3.length c4, .slice A5 x.f4.length c5], rfl, (k30_mk w x.f1 ), ⟨[.string x.f2], [.slice A4 x.f3.length c4, .slice A5 x.f4.length c5], rfl, rfl, ⟨[.slice A4 x.f3.length c4], [.slice A5 x.f4.length c5], rfl, ⟨A4, c4, rfl, l4, r4⟩, ⟨A5, c5, rfl, l5, g5⟩⟩⟩⟩⟩⟩
theorem k33_mkM (w : World) (base : Nat) (ok : Nat → Prop) (x : S33) {v4 : Value} (g4 : k33.R 33 w base ok v4 x.f3) {v5 : Value} (g5 : Kd.string.R 9 w base ok v5 x.f4) : k33.M w base ok x [.int .i64 x.f0, .int .i64 x.f1.f0, .int .i64 x.f1.f1, .string x.f2, v4, v5] := by
 obtain ⟨n4, q4⟩ := Kd.fix_R_back mono33 g4
 have r4 := Kd.upto_R_le mono33 sz33 (show n4 ≤ n4 by omega) q4
 exact ⟨n4 + 1, ⟨[.int .i64 x.f0], [.int .i64 x.f1.f0, .int .i64 x.f1.f1, .string x.f2, v4, v5], rfl, rfl, ⟨[.int .i64 x.f1.f0, .int .i64 x.f1.f1], [.string x.f2, v4, v5], rfl, (k30_mkM w base ok x.f1 ), ⟨[.string x.f2], [v4, v5], rfl, rfl, ⟨[v4], [v5], rfl, ⟨v4, rfl, r4⟩, ⟨v5, rfl, g5⟩⟩⟩⟩⟩⟩
theorem k33_openF {W : World} {ok : Nat → Prop} {x : S33} {cs : List Value} (h : Kd.FK k33 W ok x cs) : ∃ A4 c4 A5 c5, cs = [.int .i64 x.f0, .int .i64 x.f1.f0, .int .i64 x.f1.f1, .string x.f2, .slice A4 x.f3.length c4, .slice A5 x.f4.length c5] ∧ x.f3.length ≤ c4 ∧ Kd.F k33 W ok A4 x.f3.length x.f3 ∧ x.f4.length ≤ c5 ∧ Kd.F Kd.string W ok A5 x.f4.length x.f4 := by
 obtain ⟨A4, c4, A5, c5, rfl, l4, _, l5, _⟩ := k33_open (Kd.FK_now h)
 exact ⟨A4, c4, A5, c5, rfl, l4, (fun W' hW => by obtain ⟨A4_, c4_, A5_, c5_, he, l4_, g4_, l5_, g5_⟩ := k33_open (h W' hW); injection (yF (show some (Value.slice A4 x.f3.length c4) = some (Value.slice A4_ x.f3.length c4_) from congrArg (fun l => l[4]?) he)) with ha_ _ _; rw [ha_]; exact g4_), l5, (fun W' hW => by obtain ⟨A4_, c4_, A5_, c5_, he, l4_, g4_, l5_, g5_⟩ := k33_open (h W' hW); injection (yF (show some (Value.slice A5 x.f4.length c5) = some (Value.slice A5_ x.f4.length c5_) from congrArg (fun l => l[5]?) he)) with ha_ _ _; rw [ha_]; exact g5_)⟩
theorem k33_mkF (W : World) (ok : Nat → Prop) (x : S33) {A4 : Option Addr} {c4 : Nat} (l4 : x.f3.length ≤ c4) (g4 : Kd.F k33 W ok A4 x.f3.length x.f3) {A5 : Option Addr} {c5 : Nat} (l5 : x.f4.length ≤ c5) (g5 : Kd.F Kd.string W ok A5 x.f4.length x.f4) : Kd.FK k33 W ok x [.int .i64 x.f0, .int .i64 x.f1.f0, .int .i64 x.f1.f1, .string x.f2, .slice A4 x.f3.length c4, .slice A5 x.f4.length c5] := fun W2 hW => k33_mk W2 x l4 (g4 W2 hW) l5 (g5 W2 hW)
def rd_T33 (xs : List S33) (i : Int) : S33 := xs.getD i.toNat z33
theorem at_T33 {w : World} {A : Option Addr} {n : Nat} {xs : List S33} (h : Kd.C k33 w A n xs) (i : Int) (h0 : 0 ≤ i) (h1 : i < n) : ∃ ad A4 c4 A5 c5, A = some ad ∧ w.cell? (ad.add (i.toNat * 6)) = some (.int .i64 (rd_T33 xs i).f0) ∧ w.cell? ⟨(ad.add (i.toNat * 6)).block, (ad.add (i.toNat * 6)).off + 1, none⟩ = some (.int .i64 (rd_T33 xs i).f1.f0) ∧ w.cell? ⟨(ad.add (i.toNat * 6)).block, (ad.add (i.toNat * 6)).off + 2, none⟩ = some (.int .i64 (rd_T33 xs i).f1.f1) ∧ w.cell? ⟨(ad.add (i.toNat * 6)).block, (ad.add (i.toNat * 6)).off + 3, none⟩ = some (.string (rd_T33 xs i).f2) ∧ w.cell? ⟨(ad.add (i.toNat * 6)).block, (ad.add (i.toNat * 6)).off + 4, none⟩ = some (.slice A4 (rd_T33 xs i).f3.length c4) ∧ w.cell? ⟨(ad.add (i.toNat * 6)).block, (ad.add (i.toNat * 6)).off + 5, none⟩ = some (.slice A5 (rd_T33 xs i).f4.length c5) ∧ (rd_T33 xs i).f3.length ≤ c4 ∧ k33.C w A4 (rd_T33 xs i).f3.length (rd_T33 xs i).f3 ∧ (rd_T33 xs i).f4.length ≤ c5 ∧ Kd.string.C w A5 (rd_T33 xs i).f4.length (rd_T33 xs i).f4 := by
 obtain ⟨ad, c, e, _, hK, hc0⟩ := Kd.C_get h z33 i h0 h1
 have hc : ∀ j u, c[j]? = some u → w.cell? (ad.add (i.toNat * 6 + j)) = some u := hc0
 obtain ⟨A4, c4, A5, c5, rfl, l4, g4, l5, g5⟩ := k33_open hK
 exact ⟨ad, A4, c4, A5, c5, e, hc 0 _ rfl, by rw [← add_field _ _ 1 (by omega)]; exact hc 1 _ rfl, by rw [← add_field _ _ 2 (by omega)]; exact hc 2 _ rfl, by rw [← add_field _ _ 3 (by omega)]; exact hc 3 _ rfl, by rw [← add_field _ _ 4 (by omega)]; exact hc 4 _ rfl, by rw [← add_field _ _ 5 (by omega)]; exact hc 5 _ rfl, l4, g4, l5, g5⟩

end Go.Proofs.YtoajejdicfabmaaDoor.Q

namespace Go.Proofs.YtoajejdicfabmaaDoor.Q
open Go.RowKit Go.Proofs.YtoajejdicfabmaaDoorW.PrintWords Go.Proofs.YtoajejdicfabmaaDoorW.PrintLast Go.Proofs.YtoajejdicfabmaaDoorW.PrintMore Go.Proofs.YtoajejdicfabmaaDoorX
attribute [local go_sem] max2_int min2_int max_two min_two max_three min_three max_four min_four   -- for this text's walks alone
set_option linter.unusedVariables false
set_option linter.unusedSimpArgs false

def impl_isLetter.f (a0 : Int) : Option (Bool) := if a0 ≥ 97 then (if a0 ≤ 122 then (some true) else (some (a0 == 95))) else (some (a0 == 95))
set_option maxHeartbeats 8000000 in
set_option maxRecDepth 100000 in
theorem impl_isLetter.calls (a0 : Int) (r : Bool) (w : World) (h : impl_isLetter.f a0 = some r) :
  Calls Tryd.prog 51 #[.int .u8 a0] w fun e w' => e = .returned (.bool r) ∧ Drawn0 w w' := by
 have H : (if a0 ≥ 97 then (if a0 ≤ 122 then (some true) else (some (a0 == 95))) else (some (a0 == 95))) = some r := h
 clear h
 by_cases c2 : a0 ≥ 97
 ·rw [if_pos c2] at H
  have c2b0 : decide (97 ≤ a0) = true := yD c2
  clear c2
  by_cases c3 : a0 ≤ 122
  ·rw [if_pos c3] at H
   have c3b0 : decide (a0 ≤ 122) = true := yD c3
   clear c3
   obtain rfl := yF H
   go_enter Tryd.func51, Tryd.ntmps51
   go_wp2
   go_ret
   exact ⟨apB, apO⟩
  ·rw [if_neg c3] at H
   have c3b0 : decide (a0 ≤ 122) = false := decide_eq_false c3
   clear c3
   obtain rfl := yF H
   go_enter Tryd.func51, Tryd.ntmps51
   go_wp2
   go_ret
   exact ⟨apB, apO⟩
 ·rw [if_neg c2] at H
  have c2b0 : decide (97 ≤ a0) = false := decide_eq_false c2
  clear c2
  obtain rfl := yF H
  go_enter Tryd.func51, Tryd.ntmps51
  go_wp2
  go_ret
  exact ⟨apB, apO⟩


def impl_isFigure.f (a0 : Int) : Option (Bool) := if a0 ≥ 48 then (some (decide (a0 ≤ 57))) else (some false)
set_option maxHeartbeats 8000000 in
set_option maxRecDepth 100000 in
theorem impl_isFigure.calls (a0 : Int) (r : Bool) (w : World) (h : impl_isFigure.f a0 = some r) :
  Calls Tryd.prog 68 #[.int .u8 a0] w fun e w' => e = .returned (.bool r) ∧ Drawn0 w w' := by
 have H : (if a0 ≥ 48 then (some (decide (a0 ≤ 57))) else (some false)) = some r := h
 clear h
 by_cases c2 : a0 ≥ 48
 ·rw [if_pos c2] at H
  have c2b0 : decide (48 ≤ a0) = true := yD c2
  clear c2
  obtain rfl := yF H
  go_enter Tryd.func68, Tryd.ntmps68
  go_wp2
  go_ret
  exact ⟨apB, apO⟩
 ·rw [if_neg c2] at H
  have c2b0 : decide (48 ≤ a0) = false := decide_eq_false c2
  clear c2
  obtain rfl := yF H
  go_enter Tryd.func68, Tryd.ntmps68
  go_wp2
  go_ret
  exact ⟨apB, apO⟩


def impl_inName.f (a0 : Int) : Option (Bool) := (impl_isLetter.f a0).bind fun t312 => (if t312 = true then (some true) else ((impl_isFigure.f a0).bind fun t313 => (some t313)))
set_option maxHeartbeats 8000000 in
set_option maxRecDepth 100000 in
theorem impl_inName.calls (a0 : Int) (r : Bool) (w : World) (h : impl_inName.f a0 = some r) :
  Calls Tryd.prog 53 #[.int .u8 a0] w fun e w' => e = .returned (.bool r) ∧ Drawn0 w w' := by
 have H : ((impl_isLetter.f a0).bind fun t312 => (if t312 = true then (some true) else ((impl_isFigure.f a0).bind fun t313 => (some t313)))) = some r := h
 clear h
 replace H := Option.bind_eq_some_iff.mp H
 obtain ⟨t312, A20, H⟩ := H
 have A2 := zA A20
 clear A20
 by_cases c3 : t312 = true
 ·subst c3
  have H1 := H; rw [if_pos rfl] at H1
  clear H
  have H := H1
  clear H1
  obtain rfl := yF H
  go_enter Tryd.func53, Tryd.ntmps53
  go_wp2_with (first | ((with_reducible refine zV (f := 51) rfl ?_); refine goesL_ (some 4) rfl rfl Tryd.func51 (by kernel_rfl) rfl #[.int .u8 a0] rfl apD ?_; (with_reducible refine (impl_isLetter.calls a0 true _ A2.out).mono ?_); rintro e w' ⟨rfl, ⟨nd, rfl⟩⟩; refine ⟨_, rfl, ?_⟩))
  go_ret
  exact ⟨apB, apO⟩
 ·replace c3 := Bool.eq_false_iff.mpr c3
  subst c3
  have H1 := H; rw [if_neg (show ¬ (false = true) by decide)] at H1
  clear H
  have H := H1
  clear H1
  replace H := Option.bind_eq_some_iff.mp H
  obtain ⟨t313, A40, H⟩ := H
  have A4 := zA A40
  clear A40
  obtain rfl := yF H
  go_enter Tryd.func53, Tryd.ntmps53
  go_wp2_with (first | ((with_reducible refine zV (f := 51) rfl ?_); refine goesL_ (some 4) rfl rfl Tryd.func51 (by kernel_rfl) rfl #[.int .u8 a0] rfl apD ?_; (with_reducible refine (impl_isLetter.calls a0 false _ A2.out).mono ?_); rintro e w' ⟨rfl, ⟨nd, rfl⟩⟩; refine ⟨_, rfl, ?_⟩) | (go_at_call 68; (with_reducible refine (impl_isFigure.calls a0 t313 _ A4.out).mono ?_); rintro e w' ⟨rfl, ⟨nd, rfl⟩⟩))
  go_ret
  exact ⟨apB, apO⟩


def impl_run_at_inName.l0 : Nat → ByteArray → Int → Option (Int)
 | 0, _, _ => none
 | k + 1, x0, x1 => if x1 < (x0.size : Int) then (if 0 ≤ x1 then ((impl_inName.f (bt x0 x1)).bind fun t314 => (if t314 = true then (impl_run_at_inName.l0 k x0 (wrap64 (x1 + 1))) else (some x1))) else (none)) else (some x1)
def impl_run_at_inName.f (k : Nat) (a0 : ByteArray) (a1 : Int)  : Option (Int) := impl_run_at_inName.l0 k a0 a1
theorem impl_run_at_inName.mono_l : ∀ k, (∀ y0 y1, LeO (impl_run_at_inName.l0 k y0 y1) (impl_run_at_inName.l0 (k + 1) y0 y1))
 | 0 => fun _ _ r h => by simp [impl_run_at_inName.l0] at h
 | k + 1 => by
  have ih0 := impl_run_at_inName.mono_l k
  ·intro y0 y1
   unfold impl_run_at_inName.l0
   repeat' first
   | (with_reducible exact ih0 _ _)
   | (with_reducible exact LeO.refl _)
   | (with_reducible exact LeO.none _)
   | (with_reducible refine LeO.ite ?_ ?_)
   | (with_reducible refine LeO.bind ?_ (fun _ => ?_))
   | exact ih0 _ _
theorem impl_run_at_inName.mono : ∀ a0 a1 k, LeO (impl_run_at_inName.f k a0 a1) (impl_run_at_inName.f (k + 1) a0 a1) := by
 intro a0 a1 k
 have ih0 := impl_run_at_inName.mono_l k
 unfold impl_run_at_inName.f
 repeat' first
   | (with_reducible exact ih0 _ _)
   | (with_reducible exact LeO.refl _)
   | (with_reducible exact LeO.none _)
   | (with_reducible refine LeO.ite ?_ ?_)
   | (with_reducible refine LeO.bind ?_ (fun _ => ?_))
   | exact ih0 _ _
set_option maxHeartbeats 8000000 in
set_option maxRecDepth 100000 in
theorem impl_run_at_inName.calls (k : Nat) (a0 : ByteArray) (a1 : Int)  (r : Int) (w : World) (h : impl_run_at_inName.f k a0 a1 = some r) :
  Calls Tryd.prog 52 #[.string a0, .int .i64 a1, .func (.func 53) #[] #[]] w fun e w' => e = .returned (.int .i64 r) ∧ Drawn0 w w' := by
 have H : (impl_run_at_inName.l0 k a0 a1) = some r := h
 clear h
 have H' := zA H
 clear H
 go_enter Tryd.func52, Tryd.ntmps52
 go_wp2
 go_loopg [1] k (fun kq v1 w' => ∃ (x1_1 : Int), v1 = .int .i64 x1_1 ∧ Aside0 (impl_run_at_inName.l0 kq a0 x1_1 = some r) ∧ Aside0 (kq ≤ k) ∧ Drawn0 w w')
 case atStart => exact ⟨(a1), apB, H', ⟨yH _⟩, apO⟩
 case round =>
  clear H'
  try clear p2
  obtain ⟨x1_1, rfl, HA, HK1, ⟨m1, rfl⟩⟩ := hrel
  cases gk with
  | zero => exact absurd HA.out (by simp [impl_run_at_inName.l0])
  | succ k1 =>
   have H := HA.out
   clear HA
   simp only [impl_run_at_inName.l0] at H
   by_cases c4 : x1_1 < (a0.size : Int)
   ·rw [if_pos c4] at H
    have c4b0 : decide (x1_1 < (a0.size : Int)) = true := yD c4
    clear c4
    by_cases c5 : 0 ≤ x1_1
    ·rw [if_pos c5] at H
     have c5b0 : decide (0 ≤ x1_1) = true := yD c5
     clear c5
     replace H := Option.bind_eq_some_iff.mp H
     obtain ⟨t314, A70, H⟩ := H
     have A7 := zA A70
     clear A70
     by_cases c8 : t314 = true
     ·subst c8
      have H1 := H; rw [if_pos rfl] at H1
      clear H
      have H := H1
      clear H1
      have H' := zA H
      clear H
      have p6 : 0 ≤ (x1_1 : Int) := yE apC
      have q6 : x1_1 < (a0.size : Int) := yE apC
      have hx6 := bt_at a0 x1_1
      replace p6 := eq_true p6
      replace q6 := eq_true q6
      go_wp2_with (first | (go_at_call 53; (with_reducible refine (impl_inName.calls (bt a0 x1_1) true _ A7.out).mono ?_); rintro e w' ⟨rfl, ⟨nd, rfl⟩⟩))
      go_roundg k1
      case measure => have := HK1.out; omega
      case rel => exact ⟨(wrap64 (x1_1 + 1)), apB, H', ⟨by have := HK1.out; omega⟩, apO⟩
     ·replace c8 := Bool.eq_false_iff.mpr c8
      subst c8
      have H1 := H; rw [if_neg (show ¬ (false = true) by decide)] at H1
      clear H
      have H := H1
      clear H1
      obtain rfl := yF H
      have p6 : 0 ≤ (x1_1 : Int) := yE apC
      have q6 : x1_1 < (a0.size : Int) := yE apC
      have hx6 := bt_at a0 x1_1
      replace p6 := eq_true p6
      replace q6 := eq_true q6
      go_wp2_with (first | (go_at_call 53; (with_reducible refine (impl_inName.calls (bt a0 x1_1) false _ A7.out).mono ?_); rintro e w' ⟨rfl, ⟨nd, rfl⟩⟩))
      go_ret
      exact ⟨apB, apO⟩
    ·rw [if_neg c5] at H
     exact absurd H (by simp)
   ·rw [if_neg c4] at H
    have c4b0 : decide (x1_1 < (a0.size : Int)) = false := decide_eq_false c4
    clear c4
    obtain rfl := yF H
    go_wp2
    go_ret
    exact ⟨apB, apO⟩


def slices_Index_string_string.l0 : Nat → List ByteArray → ByteArray → Int → Int → Option (Int)
 | 0, _, _, _, _ => none
 | k + 1, x0, x1, x7, x8 => if x8 < x7 then (if 0 ≤ x8 then (if x8 < (x0.length : Int) then (if x1.toList = (rdOf ByteArray.empty x0 x8).toList then (some x8) else (slices_Index_string_string.l0 k x0 x1 x7 (wrap64 (x8 + 1)))) else (none)) else (none)) else (some (-1))
def slices_Index_string_string.f (k : Nat) (l0 : List ByteArray) (a1 : ByteArray) : Option (Int) := slices_Index_string_string.l0 k l0 a1 (l0.length : Int) 0
theorem slices_Index_string_string.mono_l : ∀ k, (∀ y0 y1 y2 y3, LeO (slices_Index_string_string.l0 k y0 y1 y2 y3) (slices_Index_string_string.l0 (k + 1) y0 y1 y2 y3))
 | 0 => fun _ _ _ _ r h => by simp [slices_Index_string_string.l0] at h
 | k + 1 => by
  have ih0 := slices_Index_string_string.mono_l k
  ·intro y0 y1 y2 y3
   unfold slices_Index_string_string.l0
   repeat' first
   | (with_reducible exact ih0 _ _ _ _)
   | (with_reducible exact LeO.refl _)
   | (with_reducible exact LeO.none _)
   | (with_reducible refine LeO.ite ?_ ?_)
   | (with_reducible refine LeO.bind ?_ (fun _ => ?_))
   | exact ih0 _ _ _ _
theorem slices_Index_string_string.mono : ∀ a0 a1 k, LeO (slices_Index_string_string.f k a0 a1) (slices_Index_string_string.f (k + 1) a0 a1) := by
 intro a0 a1 k
 have ih0 := slices_Index_string_string.mono_l k
 unfold slices_Index_string_string.f
 repeat' first
   | (with_reducible exact ih0 _ _ _ _)
   | (with_reducible exact LeO.refl _)
   | (with_reducible exact LeO.none _)
   | (with_reducible refine LeO.ite ?_ ?_)
   | (with_reducible refine LeO.bind ?_ (fun _ => ?_))
   | exact ih0 _ _ _ _
set_option maxHeartbeats 8000000 in
set_option maxRecDepth 100000 in
theorem slices_Index_string_string.calls (k : Nat) (A0 : Option Addr) (c0 : Nat) (l0 : List ByteArray) (a1 : ByteArray) (r : Int) (w : World) (hr0 : Kd.C Kd.string w A0 l0.length l0) (hc0 : l0.length ≤ c0) (h : slices_Index_string_string.f k l0 a1 = some r) :
  Calls Tryd.prog 69 #[.slice A0 l0.length c0, .string a1] w fun e w' => e = .returned (.int .i64 r) ∧ Drawn0 w w' := by
 have HR0 := zA hr0
 have HC0 := zA hc0
 clear hr0 hc0
 have H : (slices_Index_string_string.l0 k l0 a1 (l0.length : Int) 0) = some r := h
 clear h
 have H' := zA H
 clear H
 go_enter Tryd.func69, Tryd.ntmps69
 go_wp2
 go_loopg [8] k (fun kq v8 w' => ∃ (x8_1 : Int), v8 = .int .i64 x8_1 ∧ Aside0 (slices_Index_string_string.l0 kq l0 a1 (l0.length : Int) x8_1 = some r) ∧ Aside0 (kq ≤ k) ∧ Drawn0 w w')
 case atStart => exact ⟨(0), apB, H', ⟨yH _⟩, apO⟩
 case round =>
  clear H'
  try clear p2
  obtain ⟨x8_1, rfl, HA, HK1, ⟨m1, rfl⟩⟩ := hrel
  cases gk with
  | zero => exact absurd HA.out (by simp [slices_Index_string_string.l0])
  | succ k1 =>
   have H := HA.out
   clear HA
   simp only [slices_Index_string_string.l0] at H
   by_cases c3 : x8_1 < (l0.length : Int)
   ·rw [if_pos c3] at H
    have c3b0 : decide (x8_1 < (l0.length : Int)) = true := yD c3
    clear c3
    by_cases c4 : 0 ≤ x8_1
    ·rw [if_pos c4] at H
     have c4b0 : decide (0 ≤ x8_1) = true := yD c4
     clear c4
     by_cases c5 : x8_1 < (l0.length : Int)
     ·rw [if_pos c5] at H
      have c5b0 : decide (x8_1 < (l0.length : Int)) = true := yD c5
      clear c5
      by_cases c6 : a1.toList = (rdOf ByteArray.empty l0 x8_1).toList
      ·rw [if_pos c6] at H
       have c6b0 : (a1.toList == (rdOf ByteArray.empty l0 x8_1).toList) = true := beq_iff_eq.mpr c6
       have c6b1 : (a1.toList != (rdOf ByteArray.empty l0 x8_1).toList) = false := bne_eq_false_iff_eq.mpr c6
       clear c6
       obtain rfl := yF H
       have p315 : 0 ≤ (x8_1 : Int) := yE apC
       have q315 : x8_1 < (l0.length : Int) := yE apC
       obtain ⟨ad315, e315, hx315_0⟩ := Kd.at_string HR0.out x8_1 p315 q315
       cases e315
       replace p315 := eq_true p315
       replace q315 := eq_true q315
       go_wp2
       go_ret
       exact ⟨apB, apO⟩
      ·rw [if_neg c6] at H
       have c6b0 : (a1.toList == (rdOf ByteArray.empty l0 x8_1).toList) = false := beq_eq_false_iff_ne.mpr c6
       have c6b1 : (a1.toList != (rdOf ByteArray.empty l0 x8_1).toList) = true := bne_iff_ne.mpr c6
       have H' := zA H
       clear H
       have p315 : 0 ≤ (x8_1 : Int) := yE apC
       have q315 : x8_1 < (l0.length : Int) := yE apC
       obtain ⟨ad315, e315, hx315_0⟩ := Kd.at_string HR0.out x8_1 p315 q315
       cases e315
       replace p315 := eq_true p315
       replace q315 := eq_true q315
       go_wp2
       go_roundg k1
       case measure => have := HK1.out; omega
       case rel => exact ⟨(wrap64 (x8_1 + 1)), apB, H', ⟨by have := HK1.out; omega⟩, apO⟩
     ·rw [if_neg c5] at H
      exact absurd H (by simp)
    ·rw [if_neg c4] at H
     exact absurd H (by simp)
   ·rw [if_neg c3] at H
    have c3b0 : decide (x8_1 < (l0.length : Int)) = false := decide_eq_false c3
    clear c3
    obtain rfl := yF H
    go_wp2
    go_ret
    exact ⟨apB, apO⟩


def slices_Contains_string_string.f (k : Nat) (l0 : List ByteArray) (a1 : ByteArray) : Option (Bool) := (slices_Index_string_string.f k l0 a1).bind fun t316 => (some (decide (t316 ≥ 0)))
theorem slices_Contains_string_string.mono : ∀ a0 a1 k, LeO (slices_Contains_string_string.f k a0 a1) (slices_Contains_string_string.f (k + 1) a0 a1) := by
 intro a0 a1 k
 unfold slices_Contains_string_string.f
 repeat' first
   | (with_reducible exact slices_Index_string_string.mono _ _ _)
   | (with_reducible exact LeO.refl _)
   | (with_reducible exact LeO.none _)
   | (with_reducible refine LeO.ite ?_ ?_)
   | (with_reducible refine LeO.bind ?_ (fun _ => ?_))
set_option maxHeartbeats 8000000 in
set_option maxRecDepth 100000 in
theorem slices_Contains_string_string.calls (k : Nat) (A0 : Option Addr) (c0 : Nat) (l0 : List ByteArray) (a1 : ByteArray) (r : Bool) (w : World) (hr0 : Kd.C Kd.string w A0 l0.length l0) (hc0 : l0.length ≤ c0) (h : slices_Contains_string_string.f k l0 a1 = some r) :
  Calls Tryd.prog 54 #[.slice A0 l0.length c0, .string a1] w fun e w' => e = .returned (.bool r) ∧ Drawn0 w w' := by
 have HR0 := zA hr0
 have HC0 := zA hc0
 clear hr0 hc0
 have H : ((slices_Index_string_string.f k l0 a1).bind fun t316 => (some (decide (t316 ≥ 0)))) = some r := h
 clear h
 replace H := Option.bind_eq_some_iff.mp H
 obtain ⟨t316, A30, H⟩ := H
 have A3 := zA A30
 clear A30
 obtain rfl := yF H
 go_enter Tryd.func54, Tryd.ntmps54
 go_wp2_with (first | ((with_reducible refine zV (f := 69) rfl ?_); refine goesL_ (some 7) rfl rfl Tryd.func69 (by kernel_rfl) rfl #[.slice A0 l0.length c0, .string a1] rfl apD ?_; (with_reducible refine (slices_Index_string_string.calls k _ _ l0 a1 t316 _ ?side1 ?side2 A3.out).mono ?_); (case side1 => repeat (first | exact HR0.out | (with_reducible refine Kd.C_alloc ?_ _) | (with_reducible refine Kd.C_drewN ?_ _) | (with_reducible refine Kd.C_drew ?_))); (case side2 => exact HC0.out); rintro e w' ⟨rfl, ⟨nd, rfl⟩⟩; refine ⟨_, rfl, ?_⟩))
 go_ret
 exact ⟨apB, apO⟩


def impl_NameOk.f (k : Nat) (a0 : ByteArray) (l1 : List (List ByteArray)) : Option (Bool) := if a0.toList = ([] : List UInt8) then (some false) else (if (a0.size : Int) ≤ 12 then (if 0 < (a0.size : Int) then ((impl_isLetter.f (bt a0 0)).bind fun t317 => (if t317 = true then ((impl_run_at_inName.f k a0 0).bind fun t318 => (if t318 = (a0.size : Int) then (if 0 < (l1.length : Int) then ((slices_Contains_string_string.f k (rd_L4 l1 0) a0).bind fun t320 => (some (!t320))) else (none)) else (some false))) else (some false))) else (none)) else (some false))
theorem impl_NameOk.mono : ∀ a0 a1 k, LeO (impl_NameOk.f k a0 a1) (impl_NameOk.f (k + 1) a0 a1) := by
 intro a0 a1 k
 unfold impl_NameOk.f
 repeat' first
   | (with_reducible exact impl_run_at_inName.mono _ _ _)
   | (with_reducible exact slices_Contains_string_string.mono _ _ _)
   | (with_reducible exact LeO.refl _)
   | (with_reducible exact LeO.none _)
   | (with_reducible refine LeO.ite ?_ ?_)
   | (with_reducible refine LeO.bind ?_ (fun _ => ?_))
set_option maxHeartbeats 8000000 in
set_option maxRecDepth 100000 in
theorem impl_NameOk.calls (k : Nat) (a0 : ByteArray) (A1 : Option Addr) (c1 : Nat) (l1 : List (List ByteArray)) (r : Bool) (w : World) (hr1 : Kd.C (Kd.slice 9 Kd.string) w A1 l1.length l1) (hc1 : l1.length ≤ c1) (hg1 : A1 = some ⟨0, 0, none⟩) (h : impl_NameOk.f k a0 l1 = some r) :
  Calls Tryd.prog 36 #[.string a0] w fun e w' => e = .returned (.bool r) ∧ Drawn0 w w' := by
 have HG1 := zA hg1
 clear hg1
 have HR1 := zA hr1
 have HC1 := zA hc1
 clear hr1 hc1
 have H : (if a0.toList = ([] : List UInt8) then (some false) else (if (a0.size : Int) ≤ 12 then (if 0 < (a0.size : Int) then ((impl_isLetter.f (bt a0 0)).bind fun t317 => (if t317 = true then ((impl_run_at_inName.f k a0 0).bind fun t318 => (if t318 = (a0.size : Int) then (if 0 < (l1.length : Int) then ((slices_Contains_string_string.f k (rd_L4 l1 0) a0).bind fun t320 => (some (!t320))) else (none)) else (some false))) else (some false))) else (none)) else (some false))) = some r := h
 clear h
 by_cases c3 : a0.toList = ([] : List UInt8)
 ·rw [if_pos c3] at H
  have c3b0 : (a0.toList == ([] : List UInt8)) = true := beq_iff_eq.mpr c3
  have c3b1 : (a0.toList != ([] : List UInt8)) = false := bne_eq_false_iff_eq.mpr c3
  clear c3
  obtain rfl := yF H
  go_enter Tryd.func36, Tryd.ntmps36
  go_wp2
  go_ret
  exact ⟨apB, apO⟩
 ·rw [if_neg c3] at H
  have c3b0 : (a0.toList == ([] : List UInt8)) = false := beq_eq_false_iff_ne.mpr c3
  have c3b1 : (a0.toList != ([] : List UInt8)) = true := bne_iff_ne.mpr c3
  by_cases c4 : (a0.size : Int) ≤ 12
  ·rw [if_pos c4] at H
   have c4b0 : decide ((a0.size : Int) ≤ 12) = true := yD c4
   have c4b1 : decide (a0.size ≤ 12) = true := yD (by omega)
   clear c4
   by_cases c5 : 0 < (a0.size : Int)
   ·rw [if_pos c5] at H
    have c5b0 : decide (0 < (a0.size : Int)) = true := yD c5
    have c5b1 : decide (0 < a0.size) = true := yD (by omega)
    clear c5
    replace H := Option.bind_eq_some_iff.mp H
    obtain ⟨t317, A70, H⟩ := H
    have A7 := zA A70
    clear A70
    by_cases c8 : t317 = true
    ·subst c8
     have H1 := H; rw [if_pos rfl] at H1
     clear H
     have H := H1
     clear H1
     replace H := Option.bind_eq_some_iff.mp H
     obtain ⟨t318, A90, H⟩ := H
     have A9 := zA A90
     clear A90
     by_cases c10 : t318 = (a0.size : Int)
     ·rw [if_pos c10] at H
      have c10b0 : (t318 == (a0.size : Int)) = true := beq_iff_eq.mpr c10
      have c10b1 : (t318 != (a0.size : Int)) = false := bne_eq_false_iff_eq.mpr c10
      clear c10
      by_cases c11 : 0 < (l1.length : Int)
      ·rw [if_pos c11] at H
       have c11b0 : decide (0 < (l1.length : Int)) = true := yD c11
       have c11b1 : decide (0 < l1.length) = true := yD (by omega)
       clear c11
       replace H := Option.bind_eq_some_iff.mp H
       obtain ⟨t320, A120, H⟩ := H
       have A12 := zA A120
       clear A120
       obtain rfl := yF H
       have p6 : 0 ≤ (0 : Int) := (by omega)
       have q6 : 0 < a0.size := (by have : (0 : Int) < (a0.size : Int) := yE apC; omega)
       have hx6 : ∀ h : 0 < a0.size, ((a0[0]'h).toNat : Int) = bt a0 0 := bt_at a0 0
       clear p6
       have qi6 : (0 < (a0.size : Int)) = True := eq_true (yE apC)
       replace q6 := eq_true q6
       go_enter Tryd.func36, Tryd.ntmps36
       go_wp2_with (first | (go_at_call 51; (with_reducible refine (impl_isLetter.calls (bt a0 0) true _ A7.out).mono ?_); rintro e w' ⟨rfl, ⟨nd, rfl⟩⟩) | (go_at_call 52; (with_reducible refine (impl_run_at_inName.calls k a0 0 t318 _ A9.out).mono ?_); rintro e w' ⟨rfl, ⟨nd, rfl⟩⟩; have p319 : 0 ≤ (0 : Int) := (by omega); have q319 : 0 < (l1.length : Int) := yE apC; obtain ⟨ad319, A319_0, c319_0, e319, hx319_0, hl319_0, hi319_0⟩ := at_L4 HR1.out 0 p319 q319; cases e319; have qi319 : (0 < l1.length) = True := eq_true (by omega); (try rw [show ((0 : Int)).toNat = 0 from rfl] at hx319_0); (try rw [Addr.add_zero'] at hx319_0); (try rw [yF HG1.out] at hx319_0); have HR319_0 := zA hi319_0; have HC319_0 := zA hl319_0; clear hi319_0 hl319_0; replace p319 := eq_true p319; replace q319 := eq_true q319) | (go_at_call 54; (with_reducible refine (slices_Contains_string_string.calls k _ _ (rd_L4 l1 0) a0 t320 _ ?side1 ?side2 A12.out).mono ?_); (case side1 => repeat (first | exact HR319_0.out | (with_reducible refine Kd.C_alloc ?_ _) | (with_reducible refine Kd.C_drewN ?_ _) | (with_reducible refine Kd.C_drew ?_))); (case side2 => exact HC319_0.out); rintro e w' ⟨rfl, ⟨nd, rfl⟩⟩))
       go_ret
       exact ⟨apB, apO⟩
      ·rw [if_neg c11] at H
       exact absurd H (by simp)
     ·rw [if_neg c10] at H
      have c10b0 : (t318 == (a0.size : Int)) = false := beq_eq_false_iff_ne.mpr c10
      have c10b1 : (t318 != (a0.size : Int)) = true := bne_iff_ne.mpr c10
      obtain rfl := yF H
      have p6 : 0 ≤ (0 : Int) := (by omega)
      have q6 : 0 < a0.size := (by have : (0 : Int) < (a0.size : Int) := yE apC; omega)
      have hx6 : ∀ h : 0 < a0.size, ((a0[0]'h).toNat : Int) = bt a0 0 := bt_at a0 0
      clear p6
      have qi6 : (0 < (a0.size : Int)) = True := eq_true (yE apC)
      replace q6 := eq_true q6
      go_enter Tryd.func36, Tryd.ntmps36
      go_wp2_with (first | (go_at_call 51; (with_reducible refine (impl_isLetter.calls (bt a0 0) true _ A7.out).mono ?_); rintro e w' ⟨rfl, ⟨nd, rfl⟩⟩) | (go_at_call 52; (with_reducible refine (impl_run_at_inName.calls k a0 0 t318 _ A9.out).mono ?_); rintro e w' ⟨rfl, ⟨nd, rfl⟩⟩))
      go_ret
      exact ⟨apB, apO⟩
    ·replace c8 := Bool.eq_false_iff.mpr c8
     subst c8
     have H1 := H; rw [if_neg (show ¬ (false = true) by decide)] at H1
     clear H
     have H := H1
     clear H1
     obtain rfl := yF H
     have p6 : 0 ≤ (0 : Int) := (by omega)
     have q6 : 0 < a0.size := (by have : (0 : Int) < (a0.size : Int) := yE apC; omega)
     have hx6 : ∀ h : 0 < a0.size, ((a0[0]'h).toNat : Int) = bt a0 0 := bt_at a0 0
     clear p6
     have qi6 : (0 < (a0.size : Int)) = True := eq_true (yE apC)
     replace q6 := eq_true q6
     go_enter Tryd.func36, Tryd.ntmps36
     go_wp2_with (first | (go_at_call 51; (with_reducible refine (impl_isLetter.calls (bt a0 0) false _ A7.out).mono ?_); rintro e w' ⟨rfl, ⟨nd, rfl⟩⟩))
     go_ret
     exact ⟨apB, apO⟩
   ·rw [if_neg c5] at H
    exact absurd H (by simp)
  ·rw [if_neg c4] at H
   have c4b0 : decide ((a0.size : Int) ≤ 12) = false := decide_eq_false c4
   have c4b1 : decide (a0.size ≤ 12) = false := decide_eq_false (by omega)
   clear c4
   obtain rfl := yF H
   go_enter Tryd.func36, Tryd.ntmps36
   go_wp2
   go_ret
   exact ⟨apB, apO⟩


def spec_l1In.f (a0 : Int) (a1 : Int) (a2 : Int) : Option (Bool) := if a0 ≥ a1 then (some (decide (a0 ≤ a2))) else (some false)
set_option maxHeartbeats 8000000 in
set_option maxRecDepth 100000 in
theorem spec_l1In.calls (a0 : Int) (a1 : Int) (a2 : Int) (r : Bool) (w : World) (h : spec_l1In.f a0 a1 a2 = some r) :
  Calls Tryd.prog 66 #[.int .i64 a0, .int .i64 a1, .int .i64 a2] w fun e w' => e = .returned (.bool r) ∧ Drawn0 w w' := by
 have H : (if a0 ≥ a1 then (some (decide (a0 ≤ a2))) else (some false)) = some r := h
 clear h
 by_cases c4 : a0 ≥ a1
 ·rw [if_pos c4] at H
  have c4b0 : decide (a1 ≤ a0) = true := yD c4
  clear c4
  obtain rfl := yF H
  go_enter Tryd.func66, Tryd.ntmps66
  go_wp2
  go_ret
  exact ⟨apB, apO⟩
 ·rw [if_neg c4] at H
  have c4b0 : decide (a1 ≤ a0) = false := decide_eq_false c4
  clear c4
  obtain rfl := yF H
  go_enter Tryd.func66, Tryd.ntmps66
  go_wp2
  go_ret
  exact ⟨apB, apO⟩


def spec_l2Has.l0 : Nat → List ByteArray → ByteArray → Int → Option (Bool)
 | 0, _, _, _ => none
 | k + 1, x0, x1, x5 => if x5 < (x0.length : Int) then (if 0 ≤ x5 then (if (rdOf ByteArray.empty x0 x5).toList = x1.toList then (some true) else (spec_l2Has.l0 k x0 x1 (wrap64 (x5 + 1)))) else (none)) else (some false)
def spec_l2Has.f (k : Nat) (l0 : List ByteArray) (a1 : ByteArray) : Option (Bool) := spec_l2Has.l0 k l0 a1 0
theorem spec_l2Has.mono_l : ∀ k, (∀ y0 y1 y2, LeO (spec_l2Has.l0 k y0 y1 y2) (spec_l2Has.l0 (k + 1) y0 y1 y2))
 | 0 => fun _ _ _ r h => by simp [spec_l2Has.l0] at h
 | k + 1 => by
  have ih0 := spec_l2Has.mono_l k
  ·intro y0 y1 y2
   unfold spec_l2Has.l0
   repeat' first
   | (with_reducible exact ih0 _ _ _)
   | (with_reducible exact LeO.refl _)
   | (with_reducible exact LeO.none _)
   | (with_reducible refine LeO.ite ?_ ?_)
   | (with_reducible refine LeO.bind ?_ (fun _ => ?_))
   | exact ih0 _ _ _
theorem spec_l2Has.mono : ∀ a0 a1 k, LeO (spec_l2Has.f k a0 a1) (spec_l2Has.f (k + 1) a0 a1) := by
 intro a0 a1 k
 have ih0 := spec_l2Has.mono_l k
 unfold spec_l2Has.f
 repeat' first
   | (with_reducible exact ih0 _ _ _)
   | (with_reducible exact LeO.refl _)
   | (with_reducible exact LeO.none _)
   | (with_reducible refine LeO.ite ?_ ?_)
   | (with_reducible refine LeO.bind ?_ (fun _ => ?_))
   | exact ih0 _ _ _
set_option maxHeartbeats 8000000 in
set_option maxRecDepth 100000 in
theorem spec_l2Has.calls (k : Nat) (A0 : Option Addr) (c0 : Nat) (l0 : List ByteArray) (a1 : ByteArray) (r : Bool) (w : World) (hr0 : Kd.C Kd.string w A0 l0.length l0) (hc0 : l0.length ≤ c0) (h : spec_l2Has.f k l0 a1 = some r) :
  Calls Tryd.prog 71 #[.slice A0 l0.length c0, .string a1] w fun e w' => e = .returned (.bool r) ∧ Drawn0 w w' := by
 have HR0 := zA hr0
 have HC0 := zA hc0
 clear hr0 hc0
 have H : (spec_l2Has.l0 k l0 a1 0) = some r := h
 clear h
 have H' := zA H
 clear H
 go_enter Tryd.func71, Tryd.ntmps71
 go_wp2
 go_loopg [5] k (fun kq v5 w' => ∃ (x5_1 : Int), v5 = .int .i64 x5_1 ∧ Aside0 (spec_l2Has.l0 kq l0 a1 x5_1 = some r) ∧ Aside0 (kq ≤ k) ∧ Drawn0 w w')
 case atStart => exact ⟨(0), apB, H', ⟨yH _⟩, apO⟩
 case round =>
  clear H'
  try clear p2
  obtain ⟨x5_1, rfl, HA, HK1, ⟨m1, rfl⟩⟩ := hrel
  cases gk with
  | zero => exact absurd HA.out (by simp [spec_l2Has.l0])
  | succ k1 =>
   have H := HA.out
   clear HA
   simp only [spec_l2Has.l0] at H
   by_cases c3 : x5_1 < (l0.length : Int)
   ·rw [if_pos c3] at H
    have c3b0 : decide (x5_1 < (l0.length : Int)) = true := yD c3
    clear c3
    by_cases c4 : 0 ≤ x5_1
    ·rw [if_pos c4] at H
     have c4b0 : decide (0 ≤ x5_1) = true := yD c4
     clear c4
     by_cases c5 : (rdOf ByteArray.empty l0 x5_1).toList = a1.toList
     ·rw [if_pos c5] at H
      have c5b0 : ((rdOf ByteArray.empty l0 x5_1).toList == a1.toList) = true := beq_iff_eq.mpr c5
      have c5b1 : ((rdOf ByteArray.empty l0 x5_1).toList != a1.toList) = false := bne_eq_false_iff_eq.mpr c5
      clear c5
      obtain rfl := yF H
      have p155 : 0 ≤ (x5_1 : Int) := yE apC
      have q155 : x5_1 < (l0.length : Int) := yE apC
      obtain ⟨ad155, e155, hx155_0⟩ := Kd.at_string HR0.out x5_1 p155 q155
      cases e155
      replace p155 := eq_true p155
      replace q155 := eq_true q155
      go_wp2
      go_ret
      exact ⟨apB, apO⟩
     ·rw [if_neg c5] at H
      have c5b0 : ((rdOf ByteArray.empty l0 x5_1).toList == a1.toList) = false := beq_eq_false_iff_ne.mpr c5
      have c5b1 : ((rdOf ByteArray.empty l0 x5_1).toList != a1.toList) = true := bne_iff_ne.mpr c5
      have H' := zA H
      clear H
      have p155 : 0 ≤ (x5_1 : Int) := yE apC
      have q155 : x5_1 < (l0.length : Int) := yE apC
      obtain ⟨ad155, e155, hx155_0⟩ := Kd.at_string HR0.out x5_1 p155 q155
      cases e155
      replace p155 := eq_true p155
      replace q155 := eq_true q155
      go_wp2
      go_roundg k1
      case measure => have := HK1.out; omega
      case rel => exact ⟨(wrap64 (x5_1 + 1)), apB, H', ⟨by have := HK1.out; omega⟩, apO⟩
    ·rw [if_neg c4] at H
     exact absurd H (by simp)
   ·rw [if_neg c3] at H
    have c3b0 : decide (x5_1 < (l0.length : Int)) = false := decide_eq_false c3
    clear c3
    obtain rfl := yF H
    go_wp2
    go_ret
    exact ⟨apB, apO⟩


def spec_l2Low.f (a0 : Int) : Option (Bool) := if a0 ≥ 97 then (if a0 ≤ 122 then (some true) else (some (a0 == 95))) else (some (a0 == 95))
set_option maxHeartbeats 8000000 in
set_option maxRecDepth 100000 in
theorem spec_l2Low.calls (a0 : Int) (r : Bool) (w : World) (h : spec_l2Low.f a0 = some r) :
  Calls Tryd.prog 76 #[.int .u8 a0] w fun e w' => e = .returned (.bool r) ∧ Drawn0 w w' := by
 have H : (if a0 ≥ 97 then (if a0 ≤ 122 then (some true) else (some (a0 == 95))) else (some (a0 == 95))) = some r := h
 clear h
 by_cases c2 : a0 ≥ 97
 ·rw [if_pos c2] at H
  have c2b0 : decide (97 ≤ a0) = true := yD c2
  clear c2
  by_cases c3 : a0 ≤ 122
  ·rw [if_pos c3] at H
   have c3b0 : decide (a0 ≤ 122) = true := yD c3
   clear c3
   obtain rfl := yF H
   go_enter Tryd.func76, Tryd.ntmps76
   go_wp2
   go_ret
   exact ⟨apB, apO⟩
  ·rw [if_neg c3] at H
   have c3b0 : decide (a0 ≤ 122) = false := decide_eq_false c3
   clear c3
   obtain rfl := yF H
   go_enter Tryd.func76, Tryd.ntmps76
   go_wp2
   go_ret
   exact ⟨apB, apO⟩
 ·rw [if_neg c2] at H
  have c2b0 : decide (97 ≤ a0) = false := decide_eq_false c2
  clear c2
  obtain rfl := yF H
  go_enter Tryd.func76, Tryd.ntmps76
  go_wp2
  go_ret
  exact ⟨apB, apO⟩


def spec_l2Figure.f (a0 : Int) : Option (Bool) := if a0 ≥ 48 then (some (decide (a0 ≤ 57))) else (some false)
set_option maxHeartbeats 8000000 in
set_option maxRecDepth 100000 in
theorem spec_l2Figure.calls (a0 : Int) (r : Bool) (w : World) (h : spec_l2Figure.f a0 = some r) :
  Calls Tryd.prog 77 #[.int .u8 a0] w fun e w' => e = .returned (.bool r) ∧ Drawn0 w w' := by
 have H : (if a0 ≥ 48 then (some (decide (a0 ≤ 57))) else (some false)) = some r := h
 clear h
 by_cases c2 : a0 ≥ 48
 ·rw [if_pos c2] at H
  have c2b0 : decide (48 ≤ a0) = true := yD c2
  clear c2
  obtain rfl := yF H
  go_enter Tryd.func77, Tryd.ntmps77
  go_wp2
  go_ret
  exact ⟨apB, apO⟩
 ·rw [if_neg c2] at H
  have c2b0 : decide (48 ≤ a0) = false := decide_eq_false c2
  clear c2
  obtain rfl := yF H
  go_enter Tryd.func77, Tryd.ntmps77
  go_wp2
  go_ret
  exact ⟨apB, apO⟩


def spec_l2Letters.l0 : Nat → ByteArray → Int → Option (Bool)
 | 0, _, _ => none
 | k + 1, x0, x3 => if x3 < (x0.size : Int) then (if 0 ≤ x3 then ((spec_l2Low.f (bt x0 x3)).bind fun t349 => (if t349 = true then (spec_l2Letters.l0 k x0 (wrap64 (x3 + 1))) else (if x3 = 0 then (some false) else ((spec_l2Figure.f (bt x0 x3)).bind fun t350 => (if t350 = true then (spec_l2Letters.l0 k x0 (wrap64 (x3 + 1))) else (some false)))))) else (none)) else ((spec_l1In.f (x0.size : Int) 1 12).bind fun t348 => (some t348))
def spec_l2Letters.f (k : Nat) (a0 : ByteArray) : Option (Bool) := spec_l2Letters.l0 k a0 0
theorem spec_l2Letters.mono_l : ∀ k, (∀ y0 y1, LeO (spec_l2Letters.l0 k y0 y1) (spec_l2Letters.l0 (k + 1) y0 y1))
 | 0 => fun _ _ r h => by simp [spec_l2Letters.l0] at h
 | k + 1 => by
  have ih0 := spec_l2Letters.mono_l k
  ·intro y0 y1
   unfold spec_l2Letters.l0
   repeat' first
   | (with_reducible exact ih0 _ _)
   | (with_reducible exact LeO.refl _)
   | (with_reducible exact LeO.none _)
   | (with_reducible refine LeO.ite ?_ ?_)
   | (with_reducible refine LeO.bind ?_ (fun _ => ?_))
   | exact ih0 _ _
theorem spec_l2Letters.mono : ∀ a0 k, LeO (spec_l2Letters.f k a0) (spec_l2Letters.f (k + 1) a0) := by
 intro a0 k
 have ih0 := spec_l2Letters.mono_l k
 unfold spec_l2Letters.f
 repeat' first
   | (with_reducible exact ih0 _ _)
   | (with_reducible exact LeO.refl _)
   | (with_reducible exact LeO.none _)
   | (with_reducible refine LeO.ite ?_ ?_)
   | (with_reducible refine LeO.bind ?_ (fun _ => ?_))
   | exact ih0 _ _
set_option maxHeartbeats 8000000 in
set_option maxRecDepth 100000 in
theorem spec_l2Letters.calls (k : Nat) (a0 : ByteArray) (r : Bool) (w : World) (h : spec_l2Letters.f k a0 = some r) :
  Calls Tryd.prog 74 #[.string a0] w fun e w' => e = .returned (.bool r) ∧ Drawn0 w w' := by
 have H : (spec_l2Letters.l0 k a0 0) = some r := h
 clear h
 have H' := zA H
 clear H
 go_enter Tryd.func74, Tryd.ntmps74
 go_wp2
 go_loopg [3] k (fun kq v3 w' => ∃ (x3_1 : Int), v3 = .int .i64 x3_1 ∧ Aside0 (spec_l2Letters.l0 kq a0 x3_1 = some r) ∧ Aside0 (kq ≤ k) ∧ Drawn0 w w')
 case atStart => exact ⟨(0), apB, H', ⟨yH _⟩, apO⟩
 case round =>
  clear H'
  obtain ⟨x3_1, rfl, HA, HK1, ⟨m1, rfl⟩⟩ := hrel
  cases gk with
  | zero => exact absurd HA.out (by simp [spec_l2Letters.l0])
  | succ k1 =>
   have H := HA.out
   clear HA
   simp only [spec_l2Letters.l0] at H
   by_cases c2 : x3_1 < (a0.size : Int)
   ·rw [if_pos c2] at H
    have c2b0 : decide (x3_1 < (a0.size : Int)) = true := yD c2
    clear c2
    by_cases c3 : 0 ≤ x3_1
    ·rw [if_pos c3] at H
     have c3b0 : decide (0 ≤ x3_1) = true := yD c3
     clear c3
     replace H := Option.bind_eq_some_iff.mp H
     obtain ⟨t349, A50, H⟩ := H
     have A5 := zA A50
     clear A50
     by_cases c6 : t349 = true
     ·subst c6
      have H1 := H; rw [if_pos rfl] at H1
      clear H
      have H := H1
      clear H1
      have H' := zA H
      clear H
      have p4 : 0 ≤ (x3_1 : Int) := yE apC
      have q4 : x3_1 < (a0.size : Int) := yE apC
      have hx4 := bt_at a0 x3_1
      replace p4 := eq_true p4
      replace q4 := eq_true q4
      go_wp2_with (first | ((with_reducible refine zV (f := 76) rfl ?_); refine goesL_ (some 13) rfl rfl Tryd.func76 (by kernel_rfl) rfl #[.int .u8 (bt a0 x3_1)] rfl apD ?_; (with_reducible refine (spec_l2Low.calls (bt a0 x3_1) true _ A5.out).mono ?_); rintro e w' ⟨rfl, ⟨nd, rfl⟩⟩; refine ⟨_, rfl, ?_⟩))
      go_roundg k1
      case measure => have := HK1.out; omega
      case rel => exact ⟨(wrap64 (x3_1 + 1)), apB, H', ⟨by have := HK1.out; omega⟩, apO⟩
     ·replace c6 := Bool.eq_false_iff.mpr c6
      subst c6
      have H1 := H; rw [if_neg (show ¬ (false = true) by decide)] at H1
      clear H
      have H := H1
      clear H1
      by_cases c7 : x3_1 = 0
      ·rw [if_pos c7] at H
       have c7b0 : (x3_1 == 0) = true := beq_iff_eq.mpr c7
       have c7b1 : (x3_1 != 0) = false := bne_eq_false_iff_eq.mpr c7
       clear c7
       obtain rfl := yF H
       have p4 : 0 ≤ (x3_1 : Int) := yE apC
       have q4 : x3_1 < (a0.size : Int) := yE apC
       have hx4 := bt_at a0 x3_1
       replace p4 := eq_true p4
       replace q4 := eq_true q4
       go_wp2_with (first | ((with_reducible refine zV (f := 76) rfl ?_); refine goesL_ (some 13) rfl rfl Tryd.func76 (by kernel_rfl) rfl #[.int .u8 (bt a0 x3_1)] rfl apD ?_; (with_reducible refine (spec_l2Low.calls (bt a0 x3_1) false _ A5.out).mono ?_); rintro e w' ⟨rfl, ⟨nd, rfl⟩⟩; refine ⟨_, rfl, ?_⟩))
       go_ret
       exact ⟨apB, apO⟩
      ·rw [if_neg c7] at H
       have c7b0 : (x3_1 == 0) = false := beq_eq_false_iff_ne.mpr c7
       have c7b1 : (x3_1 != 0) = true := bne_iff_ne.mpr c7
       replace H := Option.bind_eq_some_iff.mp H
       obtain ⟨t350, A90, H⟩ := H
       have A9 := zA A90
       clear A90
       by_cases c10 : t350 = true
       ·subst c10
        have H1 := H; rw [if_pos rfl] at H1
        clear H
        have H := H1
        clear H1
        have H' := zA H
        clear H
        have p4 : 0 ≤ (x3_1 : Int) := yE apC
        have q4 : x3_1 < (a0.size : Int) := yE apC
        have hx4 := bt_at a0 x3_1
        replace p4 := eq_true p4
        replace q4 := eq_true q4
        go_wp2_with (first | ((with_reducible refine zV (f := 76) rfl ?_); refine goesL_ (some 13) rfl rfl Tryd.func76 (by kernel_rfl) rfl #[.int .u8 (bt a0 x3_1)] rfl apD ?_; (with_reducible refine (spec_l2Low.calls (bt a0 x3_1) false _ A5.out).mono ?_); rintro e w' ⟨rfl, ⟨nd, rfl⟩⟩; refine ⟨_, rfl, ?_⟩; have p8 : 0 ≤ (x3_1 : Int) := yE apC; have q8 : x3_1 < (a0.size : Int) := yE apC; have hx8 := bt_at a0 x3_1; replace p8 := eq_true p8; replace q8 := eq_true q8) | (go_at_call 77; (with_reducible refine (spec_l2Figure.calls (bt a0 x3_1) true _ A9.out).mono ?_); rintro e w' ⟨rfl, ⟨nd, rfl⟩⟩))
        go_roundg k1
        case measure => have := HK1.out; omega
        case rel => exact ⟨(wrap64 (x3_1 + 1)), apB, H', ⟨by have := HK1.out; omega⟩, apO⟩
       ·replace c10 := Bool.eq_false_iff.mpr c10
        subst c10
        have H1 := H; rw [if_neg (show ¬ (false = true) by decide)] at H1
        clear H
        have H := H1
        clear H1
        obtain rfl := yF H
        have p4 : 0 ≤ (x3_1 : Int) := yE apC
        have q4 : x3_1 < (a0.size : Int) := yE apC
        have hx4 := bt_at a0 x3_1
        replace p4 := eq_true p4
        replace q4 := eq_true q4
        go_wp2_with (first | ((with_reducible refine zV (f := 76) rfl ?_); refine goesL_ (some 13) rfl rfl Tryd.func76 (by kernel_rfl) rfl #[.int .u8 (bt a0 x3_1)] rfl apD ?_; (with_reducible refine (spec_l2Low.calls (bt a0 x3_1) false _ A5.out).mono ?_); rintro e w' ⟨rfl, ⟨nd, rfl⟩⟩; refine ⟨_, rfl, ?_⟩; have p8 : 0 ≤ (x3_1 : Int) := yE apC; have q8 : x3_1 < (a0.size : Int) := yE apC; have hx8 := bt_at a0 x3_1; replace p8 := eq_true p8; replace q8 := eq_true q8) | (go_at_call 77; (with_reducible refine (spec_l2Figure.calls (bt a0 x3_1) false _ A9.out).mono ?_); rintro e w' ⟨rfl, ⟨nd, rfl⟩⟩))
        go_ret
        exact ⟨apB, apO⟩
    ·rw [if_neg c3] at H
     exact absurd H (by simp)
   ·rw [if_neg c2] at H
    have c2b0 : decide (x3_1 < (a0.size : Int)) = false := decide_eq_false c2
    clear c2
    replace H := Option.bind_eq_some_iff.mp H
    obtain ⟨t348, A110, H⟩ := H
    have A11 := zA A110
    clear A110
    obtain rfl := yF H
    go_wp2_with (first | ((with_reducible refine zV (f := 66) rfl ?_); refine goesL_ (some 28) rfl rfl Tryd.func66 (by kernel_rfl) rfl #[.int .i64 (a0.size : Int), .int .i64 1, .int .i64 12] rfl apD ?_; (with_reducible refine (spec_l1In.calls (a0.size : Int) 1 12 t348 _ A11.out).mono ?_); rintro e w' ⟨rfl, ⟨nd, rfl⟩⟩; refine ⟨_, rfl, ?_⟩))
    go_ret
    exact ⟨apB, apO⟩


def spec_l2Words.f  : Option (List ByteArray) := some (([(⟨#[110, 117, 108, 108]⟩ : ByteArray), (⟨#[116, 114, 117, 101]⟩ : ByteArray), (⟨#[102, 97, 108, 115, 101]⟩ : ByteArray), (⟨#[105, 102]⟩ : ByteArray), (⟨#[116, 104, 101, 110]⟩ : ByteArray), (⟨#[101, 108, 115, 101]⟩ : ByteArray), (⟨#[108, 111, 99, 97, 108]⟩ : ByteArray), (⟨#[102, 117, 110, 99, 116, 105, 111, 110]⟩ : ByteArray), (⟨#[115, 101, 108, 102]⟩ : ByteArray), (⟨#[115, 117, 112, 101, 114]⟩ : ByteArray), (⟨#[101, 114, 114, 111, 114]⟩ : ByteArray), (⟨#[105, 109, 112, 111, 114, 116]⟩ : ByteArray), (⟨#[102, 111, 114]⟩ : ByteArray), (⟨#[105, 110]⟩ : ByteArray), (⟨#[115, 116, 100]⟩ : ByteArray)] : List ByteArray))
set_option maxHeartbeats 8000000 in
set_option maxRecDepth 100000 in
theorem spec_l2Words.calls  (r : List ByteArray) (w : World) (h : spec_l2Words.f  = some r) :
  Calls Tryd.prog 75 #[] w fun e w' => ∃ v0_ : Value, e = .returned (v0_) ∧ Kd.R Kd.string 9 w' w.heap.size (fun _ => True) v0_ r ∧ Below w.heap.size w w' := by
 have HB := zA (yG w.heap.size w)
 have H : (some (([(⟨#[110, 117, 108, 108]⟩ : ByteArray), (⟨#[116, 114, 117, 101]⟩ : ByteArray), (⟨#[102, 97, 108, 115, 101]⟩ : ByteArray), (⟨#[105, 102]⟩ : ByteArray), (⟨#[116, 104, 101, 110]⟩ : ByteArray), (⟨#[101, 108, 115, 101]⟩ : ByteArray), (⟨#[108, 111, 99, 97, 108]⟩ : ByteArray), (⟨#[102, 117, 110, 99, 116, 105, 111, 110]⟩ : ByteArray), (⟨#[115, 101, 108, 102]⟩ : ByteArray), (⟨#[115, 117, 112, 101, 114]⟩ : ByteArray), (⟨#[101, 114, 114, 111, 114]⟩ : ByteArray), (⟨#[105, 109, 112, 111, 114, 116]⟩ : ByteArray), (⟨#[102, 111, 114]⟩ : ByteArray), (⟨#[105, 110]⟩ : ByteArray), (⟨#[115, 116, 100]⟩ : ByteArray)] : List ByteArray))) = some r := h
 clear h
 obtain ⟨y351, hy351⟩ : ∃ y_ : List ByteArray, y_ = (([(⟨#[110, 117, 108, 108]⟩ : ByteArray), (⟨#[116, 114, 117, 101]⟩ : ByteArray), (⟨#[102, 97, 108, 115, 101]⟩ : ByteArray), (⟨#[105, 102]⟩ : ByteArray), (⟨#[116, 104, 101, 110]⟩ : ByteArray), (⟨#[101, 108, 115, 101]⟩ : ByteArray), (⟨#[108, 111, 99, 97, 108]⟩ : ByteArray), (⟨#[102, 117, 110, 99, 116, 105, 111, 110]⟩ : ByteArray), (⟨#[115, 101, 108, 102]⟩ : ByteArray), (⟨#[115, 117, 112, 101, 114]⟩ : ByteArray), (⟨#[101, 114, 114, 111, 114]⟩ : ByteArray), (⟨#[105, 109, 112, 111, 114, 116]⟩ : ByteArray), (⟨#[102, 111, 114]⟩ : ByteArray), (⟨#[105, 110]⟩ : ByteArray), (⟨#[115, 116, 100]⟩ : ByteArray)] : List ByteArray)) := ⟨_, rfl⟩
 replace H : (some y351) = some r := by first | (rw [hy351]; with_reducible exact H) | (have H2_ := (Option.bind_some _ _).symm.trans H; rw [hy351]; with_reducible exact H2_) | (have H2_ := (Option.bind_some _ _).symm.trans H; with_reducible exact H2_) | with_reducible exact H | (rw [hy351]; exact H) | exact H
 have Ny351 := zA hy351
 clear hy351
 obtain rfl := yF H
 go_enter Tryd.func75, Tryd.ntmps75
 go_wp2_with (first | ((with_reducible refine zT (N := 1) rfl ?_); refine Kd.R_lit Kd.string _ 9 ?hg (N := 1) ?hd (xs := ([(⟨#[110, 117, 108, 108]⟩ : ByteArray), (⟨#[116, 114, 117, 101]⟩ : ByteArray), (⟨#[102, 97, 108, 115, 101]⟩ : ByteArray), (⟨#[105, 102]⟩ : ByteArray), (⟨#[116, 104, 101, 110]⟩ : ByteArray), (⟨#[101, 108, 115, 101]⟩ : ByteArray), (⟨#[108, 111, 99, 97, 108]⟩ : ByteArray), (⟨#[102, 117, 110, 99, 116, 105, 111, 110]⟩ : ByteArray), (⟨#[115, 101, 108, 102]⟩ : ByteArray), (⟨#[115, 117, 112, 101, 114]⟩ : ByteArray), (⟨#[101, 114, 114, 111, 114]⟩ : ByteArray), (⟨#[105, 109, 112, 111, 114, 116]⟩ : ByteArray), (⟨#[102, 111, 114]⟩ : ByteArray), (⟨#[105, 110]⟩ : ByteArray), (⟨#[115, 116, 100]⟩ : ByteArray)] : List ByteArray)) (inner := [.string (⟨#[110, 117, 108, 108]⟩ : ByteArray), .string (⟨#[116, 114, 117, 101]⟩ : ByteArray), .string (⟨#[102, 97, 108, 115, 101]⟩ : ByteArray), .string (⟨#[105, 102]⟩ : ByteArray), .string (⟨#[116, 104, 101, 110]⟩ : ByteArray), .string (⟨#[101, 108, 115, 101]⟩ : ByteArray), .string (⟨#[108, 111, 99, 97, 108]⟩ : ByteArray), .string (⟨#[102, 117, 110, 99, 116, 105, 111, 110]⟩ : ByteArray), .string (⟨#[115, 101, 108, 102]⟩ : ByteArray), .string (⟨#[115, 117, 112, 101, 114]⟩ : ByteArray), .string (⟨#[101, 114, 114, 111, 114]⟩ : ByteArray), .string (⟨#[105, 109, 112, 111, 114, 116]⟩ : ByteArray), .string (⟨#[102, 111, 114]⟩ : ByteArray), .string (⟨#[105, 110]⟩ : ByteArray), .string (⟨#[115, 116, 100]⟩ : ByteArray)]) (ok := fun _ => True) (okp := fun _ => True) ?hr ?hp (fun _ hk => hk) trivial (yG _ _) (yH _) (by simp) ?_; (case hd => rfl); (case hg => rfl); (case hr => first | (go_simp; done) | (go_simp; rfl)); (case hp => exact (Reps.one (show Kd.M Kd.string _ _ _ (⟨#[110, 117, 108, 108]⟩ : ByteArray) [.string (⟨#[110, 117, 108, 108]⟩ : ByteArray)] from rfl) (Reps.one (show Kd.M Kd.string _ _ _ (⟨#[116, 114, 117, 101]⟩ : ByteArray) [.string (⟨#[116, 114, 117, 101]⟩ : ByteArray)] from rfl) (Reps.one (show Kd.M Kd.string _ _ _ (⟨#[102, 97, 108, 115, 101]⟩ : ByteArray) [.string (⟨#[102, 97, 108, 115, 101]⟩ : ByteArray)] from rfl) (Reps.one (show Kd.M Kd.string _ _ _ (⟨#[105, 102]⟩ : ByteArray) [.string (⟨#[105, 102]⟩ : ByteArray)] from rfl) (Reps.one (show Kd.M Kd.string _ _ _ (⟨#[116, 104, 101, 110]⟩ : ByteArray) [.string (⟨#[116, 104, 101, 110]⟩ : ByteArray)] from rfl) (Reps.one (show Kd.M Kd.string _ _ _ (⟨#[101, 108, 115, 101]⟩ : ByteArray) [.string (⟨#[101, 108, 115, 101]⟩ : ByteArray)] from rfl) (Reps.one (show Kd.M Kd.string _ _ _ (⟨#[108, 111, 99, 97, 108]⟩ : ByteArray) [.string (⟨#[108, 111, 99, 97, 108]⟩ : ByteArray)] from rfl) (Reps.one (show Kd.M Kd.string _ _ _ (⟨#[102, 117, 110, 99, 116, 105, 111, 110]⟩ : ByteArray) [.string (⟨#[102, 117, 110, 99, 116, 105, 111, 110]⟩ : ByteArray)] from rfl) (Reps.one (show Kd.M Kd.string _ _ _ (⟨#[115, 101, 108, 102]⟩ : ByteArray) [.string (⟨#[115, 101, 108, 102]⟩ : ByteArray)] from rfl) (Reps.one (show Kd.M Kd.string _ _ _ (⟨#[115, 117, 112, 101, 114]⟩ : ByteArray) [.string (⟨#[115, 117, 112, 101, 114]⟩ : ByteArray)] from rfl) (Reps.one (show Kd.M Kd.string _ _ _ (⟨#[101, 114, 114, 111, 114]⟩ : ByteArray) [.string (⟨#[101, 114, 114, 111, 114]⟩ : ByteArray)] from rfl) (Reps.one (show Kd.M Kd.string _ _ _ (⟨#[105, 109, 112, 111, 114, 116]⟩ : ByteArray) [.string (⟨#[105, 109, 112, 111, 114, 116]⟩ : ByteArray)] from rfl) (Reps.one (show Kd.M Kd.string _ _ _ (⟨#[102, 111, 114]⟩ : ByteArray) [.string (⟨#[102, 111, 114]⟩ : ByteArray)] from rfl) (Reps.one (show Kd.M Kd.string _ _ _ (⟨#[105, 110]⟩ : ByteArray) [.string (⟨#[105, 110]⟩ : ByteArray)] from rfl) (Reps.one (show Kd.M Kd.string _ _ _ (⟨#[115, 116, 100]⟩ : ByteArray) [.string (⟨#[115, 116, 100]⟩ : ByteArray)] from rfl) (Reps.none _ _))))))))))))))))); intro v352 w1 ho2 hb hg_ hnew_; clear hg_ hnew_; (first | rw [← Ny351.out] at ho2 | (simp only [Int.reduceToNat] at ho2; rw [← Ny351.out] at ho2)); have HO353 := zA (Kd.R_lower ho2 (zR apA)); replace HB := zA (zQ apA hb); clear hb ho2))
 go_ret
 exact ⟨_, apE, vwR HO353.out, apA⟩


def spec_NameOk.f (k : Nat) (a0 : ByteArray) : Option (Bool) := (spec_l2Letters.f k a0).bind fun t354 => (if t354 = true then ((spec_l2Words.f).bind fun t355 => ((spec_l2Has.f k t355 a0).bind fun t358 => (some (!t358)))) else (some false))
theorem spec_NameOk.mono : ∀ a0 k, LeO (spec_NameOk.f k a0) (spec_NameOk.f (k + 1) a0) := by
 intro a0 k
 unfold spec_NameOk.f
 repeat' first
   | (with_reducible exact spec_l2Has.mono _ _ _)
   | (with_reducible exact spec_l2Letters.mono _ _)
   | (with_reducible exact LeO.refl _)
   | (with_reducible exact LeO.none _)
   | (with_reducible refine LeO.ite ?_ ?_)
   | (with_reducible refine LeO.bind ?_ (fun _ => ?_))
set_option maxHeartbeats 8000000 in
set_option maxRecDepth 100000 in
theorem spec_NameOk.calls (k : Nat) (a0 : ByteArray) (r : Bool) (w : World) (h : spec_NameOk.f k a0 = some r) :
  Calls Tryd.prog 67 #[.string a0] w fun e w' => e = .returned (.bool r) ∧ Below w.heap.size w w' := by
 have HB := zA (yG w.heap.size w)
 have H : ((spec_l2Letters.f k a0).bind fun t354 => (if t354 = true then ((spec_l2Words.f).bind fun t355 => ((spec_l2Has.f k t355 a0).bind fun t358 => (some (!t358)))) else (some false))) = some r := h
 clear h
 replace H := Option.bind_eq_some_iff.mp H
 obtain ⟨t354, A20, H⟩ := H
 have A2 := zA A20
 clear A20
 by_cases c3 : t354 = true
 ·subst c3
  have H1 := H; rw [if_pos rfl] at H1
  clear H
  have H := H1
  clear H1
  replace H := Option.bind_eq_some_iff.mp H
  obtain ⟨t355, A40, H⟩ := H
  have A4 := zA A40
  clear A40
  replace H := Option.bind_eq_some_iff.mp H
  obtain ⟨t358, A50, H⟩ := H
  have A5 := zA A50
  clear A50
  obtain rfl := yF H
  go_enter Tryd.func67, Tryd.ntmps67
  go_wp2_with (first | ((with_reducible refine zV (f := 74) rfl ?_); refine goesL_ (some 4) rfl rfl Tryd.func74 (by kernel_rfl) rfl #[.string a0] rfl apD ?_; (with_reducible refine (spec_l2Letters.calls k a0 true _ A2.out).mono ?_); rintro e w' ⟨rfl, ⟨nd, rfl⟩⟩; refine ⟨_, rfl, ?_⟩) | (go_at_call 75; (with_reducible refine (spec_l2Words.calls  t355 _ A4.out).mono ?_); rintro e w6 ⟨v356, rfl, ho0, hb⟩; have HO357 := zA (Kd.R_lower ho0 (zR apA)); replace HB := zA (zQ apA hb); (try clear hb); (try clear hb2); (try clear hk); (try clear hi); (try clear ho0); obtain ⟨Ao7, co7, eo7⟩ := Kd.R_slice HO357.out; subst eo7) | (go_at_call 71; (with_reducible refine (spec_l2Has.calls k _ _ t355 a0 t358 _ ?side1 ?side2 A5.out).mono ?_); (case side1 => exact vc (Kd.R_reads' HO357.out).2.2); (case side2 => exact (Kd.R_reads' HO357.out).2.1); rintro e w' ⟨rfl, ⟨nd, rfl⟩⟩))
  go_ret
  exact ⟨apE, apA⟩
 ·replace c3 := Bool.eq_false_iff.mpr c3
  subst c3
  have H1 := H; rw [if_neg (show ¬ (false = true) by decide)] at H1
  clear H
  have H := H1
  clear H1
  obtain rfl := yF H
  go_enter Tryd.func67, Tryd.ntmps67
  go_wp2_with (first | ((with_reducible refine zV (f := 74) rfl ?_); refine goesL_ (some 4) rfl rfl Tryd.func74 (by kernel_rfl) rfl #[.string a0] rfl apD ?_; (with_reducible refine (spec_l2Letters.calls k a0 false _ A2.out).mono ?_); rintro e w' ⟨rfl, ⟨nd, rfl⟩⟩; refine ⟨_, rfl, ?_⟩))
  go_ret
  exact ⟨apE, apA⟩


mutual
def impl_ValueSize.l0 : Nat → Int → List (S33) → Int → Int → Option (Int)
 | 0, _, _, _, _ => none
 | k + 1, x3, x7, x8, x9 => if x9 < x8 then (if 0 ≤ x9 then (if x9 < (x7.length : Int) then ((impl_ValueSize.f k ((rd_T33 x7 x9).f0) ((rd_T33 x7 x9).f1.f0) ((rd_T33 x7 x9).f1.f1) ((rd_T33 x7 x9).f2) ((rd_T33 x7 x9).f3) ((rd_T33 x7 x9).f4)).bind fun t338 => (impl_ValueSize.l0 k (wrap64 (x3 + t338)) x7 x8 (wrap64 (x9 + 1)))) else (none)) else (none)) else (some x3)
def impl_ValueSize.f : Nat → Int → Int → Int → ByteArray → List (S33) → List ByteArray → Option (Int)
 | 0, _, _, _, _, _, _ => none
 | k + 1, a0_0, a0_1, a0_2, a0_3, l0_4, l0_5 => impl_ValueSize.l0 k 1 l0_4 (l0_4.length : Int) 0
end
theorem impl_ValueSize.mono_l : ∀ k, (∀ y0 y1 y2 y3 y4 y5, LeO (impl_ValueSize.f k y0 y1 y2 y3 y4 y5) (impl_ValueSize.f (k + 1) y0 y1 y2 y3 y4 y5)) ∧ (∀ y0 y1 y2 y3, LeO (impl_ValueSize.l0 k y0 y1 y2 y3) (impl_ValueSize.l0 (k + 1) y0 y1 y2 y3))
 | 0 => ⟨fun _ _ _ _ _ _ r h => by simp [impl_ValueSize.f] at h, fun _ _ _ _ r h => by simp [impl_ValueSize.l0] at h⟩
 | k + 1 => by
  obtain ⟨ih0, ih1⟩ := impl_ValueSize.mono_l k
  refine ⟨?_, ?_⟩
  ·intro y0 y1 y2 y3 y4 y5
   unfold impl_ValueSize.f
   repeat' first
   | (with_reducible exact ih0 _ _ _ _ _ _)
   | (with_reducible exact ih1 _ _ _ _)
   | (with_reducible exact LeO.refl _)
   | (with_reducible exact LeO.none _)
   | (with_reducible refine LeO.ite ?_ ?_)
   | (with_reducible refine LeO.bind ?_ (fun _ => ?_))
   | exact ih0 _ _ _ _ _ _
   | exact ih1 _ _ _ _
  ·intro y0 y1 y2 y3
   unfold impl_ValueSize.l0
   repeat' first
   | (with_reducible exact ih0 _ _ _ _ _ _)
   | (with_reducible exact ih1 _ _ _ _)
   | (with_reducible exact LeO.refl _)
   | (with_reducible exact LeO.none _)
   | (with_reducible refine LeO.ite ?_ ?_)
   | (with_reducible refine LeO.bind ?_ (fun _ => ?_))
   | exact ih0 _ _ _ _ _ _
   | exact ih1 _ _ _ _
theorem impl_ValueSize.mono : ∀ a0 a1 a2 a3 a4 a5 k, LeO (impl_ValueSize.f k a0 a1 a2 a3 a4 a5) (impl_ValueSize.f (k + 1) a0 a1 a2 a3 a4 a5) := by
 intro a0 a1 a2 a3 a4 a5 k
 obtain ⟨ih0, ih1⟩ := impl_ValueSize.mono_l k
 exact ih0 a0 a1 a2 a3 a4 a5
set_option maxHeartbeats 8000000 in
set_option maxRecDepth 100000 in
theorem impl_ValueSize.calls (k : Nat) : ∀ (a0_0 : Int) (a0_1 : Int) (a0_2 : Int) (a0_3 : ByteArray) (A0_4 : Option Addr) (c0_4 : Nat) (l0_4 : List (S33)) (A0_5 : Option Addr) (c0_5 : Nat) (l0_5 : List ByteArray) (r : Int) (w : World) (hr0_4 : Kd.C k33 w A0_4 l0_4.length l0_4) (hc0_4 : l0_4.length ≤ c0_4) (hr0_5 : Kd.C Kd.string w A0_5 l0_5.length l0_5) (hc0_5 : l0_5.length ≤ c0_5) (h : impl_ValueSize.f k a0_0 a0_1 a0_2 a0_3 l0_4 l0_5 = some r),
  Calls Tryd.prog 12 #[.agg #[.int .i64 a0_0, .int .i64 a0_1, .int .i64 a0_2, .string a0_3, .slice A0_4 l0_4.length c0_4, .slice A0_5 l0_5.length c0_5]] w fun e w' => e = .returned (.int .i64 r) ∧ Below w.heap.size w w' := by
 induction k using Nat.strongRecOn with
 | _ k ih =>
 intro a0_0 a0_1 a0_2 a0_3 A0_4 c0_4 l0_4 A0_5 c0_5 l0_5 r w hr0_4 hc0_4 hr0_5 hc0_5 h
 cases k with
 | zero => exact absurd h (by simp [impl_ValueSize.f])
 | succ k =>
 simp only [impl_ValueSize.f] at h
 have hu33 := Tryd.underlying33
 have HR0_4 := zA hr0_4
 have HC0_4 := zA hc0_4
 clear hr0_4 hc0_4
 have HR0_5 := zA hr0_5
 have HC0_5 := zA hc0_5
 clear hr0_5 hc0_5
 have HB := zA (yG w.heap.size w)
 have H : (impl_ValueSize.l0 k 1 l0_4 (l0_4.length : Int) 0) = some r := h
 clear h
 have H' := zA H
 clear H
 go_enter Tryd.func12, Tryd.ntmps12
 go_wp2_with (first | ((with_reducible refine zT (N := 1) rfl ?_); refine zW ?hg (N := 1) ?hd (cs := #[.int .i64 a0_0, .int .i64 a0_1, .int .i64 a0_2, .string a0_3, .slice A0_4 l0_4.length c0_4, .slice A0_5 l0_5.length c0_5]) (t := 33) ?hr ?_; (case hd => rfl); (case hg => rfl); (case hr => first | (go_simp; done) | (go_simp; rfl)); intro gb335 hg w2 hbox hb; have BK335 := zA (hbox); have GW335 := zA ((by rw [hg]; exact (zR apA) : w.heap.size ≤ gb335)); have GE335 := zA ((by rw [hg]; exact (zR apA) : w.heap.size ≤ gb335)); replace HB := zA (zQ apA hb); clear hb hbox hg; obtain ⟨hcz3_0, hcz3_1, hcz3_2, hcz3_3, hcz3_4, hcz3_5, hfz3_0, hfz3_1, hfz3_2, hfz3_3, hfz3_4, hfz3_5⟩ := zb6 BK335.out))
 go_loopg [3, 9] k (fun kq v3 v9 w' => ∃ (x3_1 : Int) (x9_1 : Int), v3 = .int .i64 x3_1 ∧ v9 = .int .i64 x9_1 ∧ Aside0 (impl_ValueSize.l0 kq x3_1 l0_4 (l0_4.length : Int) x9_1 = some r) ∧ Aside0 (kq ≤ k) ∧ Aside0 (Below w.heap.size w w'))
 case atStart => exact ⟨(1), (0), apB, apB, H', ⟨yH _⟩, ⟨by repeat (first | (with_reducible first | exact HB.out | apply zG | apply zE | apply zF | refine zH ?_ GE335.out) | exact HB.out)⟩⟩
 case round =>
  clear H'
  try clear c1 p2 hcz3_0 hcz3_1 hcz3_2 hcz3_3 hcz3_4 hcz3_5 hfz3_0 hfz3_1 hfz3_2 hfz3_3 hfz3_4 hfz3_5
  obtain ⟨x3_1, x9_1, rfl, rfl, HA, HK1, HB⟩ := hrel
  cases gk with
  | zero => exact absurd HA.out (by simp [impl_ValueSize.l0])
  | succ k1 =>
   have H := HA.out
   clear HA
   simp only [impl_ValueSize.l0] at H
   by_cases c4 : x9_1 < (l0_4.length : Int)
   ·rw [if_pos c4] at H
    have c4b0 : decide (x9_1 < (l0_4.length : Int)) = true := yD c4
    clear c4
    by_cases c5 : 0 ≤ x9_1
    ·rw [if_pos c5] at H
     have c5b0 : decide (0 ≤ x9_1) = true := yD c5
     clear c5
     by_cases c6 : x9_1 < (l0_4.length : Int)
     ·rw [if_pos c6] at H
      have c6b0 : decide (x9_1 < (l0_4.length : Int)) = true := yD c6
      clear c6
      replace H := Option.bind_eq_some_iff.mp H
      obtain ⟨t338, A70, H⟩ := H
      have A7 := zA A70
      clear A70
      have H' := zA H
      clear H
      have p336 : 0 ≤ (x9_1 : Int) := yE apC
      have q336 : x9_1 < (l0_4.length : Int) := yE apC
      obtain ⟨ad336, A336_4, c336_4, A336_5, c336_5, e336, hx336_0, hx336_1, hx336_2, hx336_3, hx336_4, hx336_5, hl336_4, hi336_4, hl336_5, hi336_5⟩ := at_T33 HR0_4.out x9_1 p336 q336
      cases e336
      replace hx336_0 := (HB.out.cell (zS w _ hx336_0)).trans hx336_0
      replace hx336_1 := (HB.out.cell (zS w _ hx336_1)).trans hx336_1
      replace hx336_2 := (HB.out.cell (zS w _ hx336_2)).trans hx336_2
      replace hx336_3 := (HB.out.cell (zS w _ hx336_3)).trans hx336_3
      replace hx336_4 := (HB.out.cell (zS w _ hx336_4)).trans hx336_4
      replace hx336_5 := (HB.out.cell (zS w _ hx336_5)).trans hx336_5
      have HR336_4 := zA hi336_4
      have HC336_4 := zA hl336_4
      clear hi336_4 hl336_4
      have HR336_5 := zA hi336_5
      have HC336_5 := zA hl336_5
      clear hi336_5 hl336_5
      replace p336 := eq_true p336
      replace q336 := eq_true q336
      go_wp2_with (first | ((with_reducible refine zT (N := 5) rfl ?_); refine zW ?hg (N := 5) ?hd (cs := #[.int .i64 0, .int .i64 0, .int .i64 0, .string (⟨#[]⟩ : ByteArray), .slice none 0 0, .slice none 0 0]) (t := 33) ?hr ?_; (case hd => rfl); (case hg => rfl); (case hr => first | (go_simp; done) | (go_simp; rfl)); intro gb337 hg w8 hbox hb; have BK337 := zA (hbox); have GW337 := zA ((by rw [hg]; exact (zR apA) : w.heap.size ≤ gb337)); have GE337 := zA ((by rw [hg]; exact (zR apA) : w.heap.size ≤ gb337)); replace HB := zA (zQ apA hb); clear hb hbox hg; obtain ⟨hcz9_0, hcz9_1, hcz9_2, hcz9_3, hcz9_4, hcz9_5, hfz9_0, hfz9_1, hfz9_2, hfz9_3, hfz9_4, hfz9_5⟩ := zb6 BK337.out) | ((with_reducible refine zV (f := 12) rfl ?_); refine goesL_ (some 15) rfl rfl Tryd.func12 (by kernel_rfl) rfl #[.agg #[.int .i64 ((rd_T33 l0_4 x9_1).f0), .int .i64 ((rd_T33 l0_4 x9_1).f1.f0), .int .i64 ((rd_T33 l0_4 x9_1).f1.f1), .string ((rd_T33 l0_4 x9_1).f2), .slice A336_4 ((rd_T33 l0_4 x9_1).f3).length c336_4, .slice A336_5 ((rd_T33 l0_4 x9_1).f4).length c336_5]] rfl apD ?_; (with_reducible refine (ih k1 (by have := HK1.out; omega) ((rd_T33 l0_4 x9_1).f0) ((rd_T33 l0_4 x9_1).f1.f0) ((rd_T33 l0_4 x9_1).f1.f1) ((rd_T33 l0_4 x9_1).f2) _ _ ((rd_T33 l0_4 x9_1).f3) _ _ ((rd_T33 l0_4 x9_1).f4) t338 _ ?side1 ?side2 ?side3 ?side4 A7.out).mono ?_); (case side1 => exact Kd.C_below HR336_4.out (by repeat (first | (with_reducible first | exact HB.out | apply zG | apply zE | apply zF | refine zH ?_ GE337.out) | exact HB.out))); (case side2 => exact HC336_4.out); (case side3 => exact Kd.C_below HR336_5.out (by repeat (first | (with_reducible first | exact HB.out | apply zG | apply zE | apply zF | refine zH ?_ GE337.out) | exact HB.out))); (case side4 => exact HC336_5.out); rintro e w10 ⟨rfl, hb⟩; refine ⟨_, rfl, ?_⟩; replace BK337 := zA (zP (g := gb337) (o := .cells #[.int .i64 ((rd_T33 l0_4 x9_1).f0), .int .i64 ((rd_T33 l0_4 x9_1).f1.f0), .int .i64 ((rd_T33 l0_4 x9_1).f1.f1), .string ((rd_T33 l0_4 x9_1).f2), .slice A336_4 ((rd_T33 l0_4 x9_1).f3).length c336_4, .slice A336_5 ((rd_T33 l0_4 x9_1).f4).length c336_5] 33 (0, 0)) (by (with_reducible repeat (first | refine zB ?_ _ | refine zD ?_ | refine zC ?_ _)); refine blk_put (cs := #[.int .i64 ((rd_T33 l0_4 x9_1).f0), .int .i64 ((rd_T33 l0_4 x9_1).f1.f0), .int .i64 ((rd_T33 l0_4 x9_1).f1.f1), .string ((rd_T33 l0_4 x9_1).f2), .slice A336_4 ((rd_T33 l0_4 x9_1).f3).length c336_4, .slice none 0 0]) ?_ 5 _ rfl; (with_reducible repeat (first | refine zB ?_ _ | refine zD ?_ | refine zC ?_ _)); refine blk_put (cs := #[.int .i64 ((rd_T33 l0_4 x9_1).f0), .int .i64 ((rd_T33 l0_4 x9_1).f1.f0), .int .i64 ((rd_T33 l0_4 x9_1).f1.f1), .string ((rd_T33 l0_4 x9_1).f2), .slice none 0 0, .slice none 0 0]) ?_ 4 _ rfl; (with_reducible repeat (first | refine zB ?_ _ | refine zD ?_ | refine zC ?_ _)); refine blk_put (cs := #[.int .i64 ((rd_T33 l0_4 x9_1).f0), .int .i64 ((rd_T33 l0_4 x9_1).f1.f0), .int .i64 ((rd_T33 l0_4 x9_1).f1.f1), .string (⟨#[]⟩ : ByteArray), .slice none 0 0, .slice none 0 0]) ?_ 3 _ rfl; (with_reducible repeat (first | refine zB ?_ _ | refine zD ?_ | refine zC ?_ _)); refine blk_put (cs := #[.int .i64 ((rd_T33 l0_4 x9_1).f0), .int .i64 ((rd_T33 l0_4 x9_1).f1.f0), .int .i64 0, .string (⟨#[]⟩ : ByteArray), .slice none 0 0, .slice none 0 0]) ?_ 2 _ rfl; (with_reducible repeat (first | refine zB ?_ _ | refine zD ?_ | refine zC ?_ _)); refine blk_put (cs := #[.int .i64 ((rd_T33 l0_4 x9_1).f0), .int .i64 0, .int .i64 0, .string (⟨#[]⟩ : ByteArray), .slice none 0 0, .slice none 0 0]) ?_ 1 _ rfl; (with_reducible repeat (first | refine zB ?_ _ | refine zD ?_ | refine zC ?_ _)); refine blk_put (cs := #[.int .i64 0, .int .i64 0, .int .i64 0, .string (⟨#[]⟩ : ByteArray), .slice none 0 0, .slice none 0 0]) ?_ 0 _ rfl; (with_reducible repeat (first | refine zB ?_ _ | refine zD ?_ | refine zC ?_ _)); exact BK337.out) hb); replace HB := zA (zQ (by repeat (first | (with_reducible first | exact HB.out | apply zG | apply zE | apply zF | refine zH ?_ GE337.out) | exact HB.out)) hb); (try clear hb); (try clear hb2); (try clear hk); (try clear hi)))
      go_roundg k1
      case measure => have := HK1.out; omega
      case rel => exact ⟨(wrap64 (x3_1 + t338)), (wrap64 (x9_1 + 1)), apB, apB, H', ⟨by have := HK1.out; omega⟩, ⟨by repeat (first | (with_reducible first | exact HB.out | apply zG | apply zE | apply zF | refine zH ?_ GE337.out) | exact HB.out)⟩⟩
     ·rw [if_neg c6] at H
      exact absurd H (by simp)
    ·rw [if_neg c5] at H
     exact absurd H (by simp)
   ·rw [if_neg c4] at H
    have c4b0 : decide (x9_1 < (l0_4.length : Int)) = false := decide_eq_false c4
    clear c4
    obtain rfl := yF H
    go_wp2
    go_ret
    exact ⟨apE, apA⟩


mutual
def spec_ValueSize.l0 : Nat → Int → Int → Int → Int → Int → ByteArray → List (S33) → List ByteArray → Option (Int)
 | 0, _, _, _, _, _, _, _, _ => none
 | k + 1, x3, x4, x343000, x343001, x343002, x343003, x343004, x343005 => if x4 < (x343004.length : Int) then (if 0 ≤ x4 then ((spec_ValueSize.f k ((rd_T33 x343004 x4).f0) ((rd_T33 x343004 x4).f1.f0) ((rd_T33 x343004 x4).f1.f1) ((rd_T33 x343004 x4).f2) ((rd_T33 x343004 x4).f3) ((rd_T33 x343004 x4).f4)).bind fun t344 => (spec_ValueSize.l0 k (wrap64 (x3 + t344)) (wrap64 (x4 + 1)) x343000 x343001 x343002 x343003 x343004 x343005)) else (none)) else (some x3)
def spec_ValueSize.f : Nat → Int → Int → Int → ByteArray → List (S33) → List ByteArray → Option (Int)
 | 0, _, _, _, _, _, _ => none
 | k + 1, a0_0, a0_1, a0_2, a0_3, l0_4, l0_5 => spec_ValueSize.l0 k 1 0 a0_0 a0_1 a0_2 a0_3 l0_4 l0_5
end
theorem spec_ValueSize.mono_l : ∀ k, (∀ y0 y1 y2 y3 y4 y5, LeO (spec_ValueSize.f k y0 y1 y2 y3 y4 y5) (spec_ValueSize.f (k + 1) y0 y1 y2 y3 y4 y5)) ∧ (∀ y0 y1 y2 y3 y4 y5 y6 y7, LeO (spec_ValueSize.l0 k y0 y1 y2 y3 y4 y5 y6 y7) (spec_ValueSize.l0 (k + 1) y0 y1 y2 y3 y4 y5 y6 y7))
 | 0 => ⟨fun _ _ _ _ _ _ r h => by simp [spec_ValueSize.f] at h, fun _ _ _ _ _ _ _ _ r h => by simp [spec_ValueSize.l0] at h⟩
 | k + 1 => by
  obtain ⟨ih0, ih1⟩ := spec_ValueSize.mono_l k
  refine ⟨?_, ?_⟩
  ·intro y0 y1 y2 y3 y4 y5
   unfold spec_ValueSize.f
   repeat' first
   | (with_reducible exact ih0 _ _ _ _ _ _)
   | (with_reducible exact ih1 _ _ _ _ _ _ _ _)
   | (with_reducible exact LeO.refl _)
   | (with_reducible exact LeO.none _)
   | (with_reducible refine LeO.ite ?_ ?_)
   | (with_reducible refine LeO.bind ?_ (fun _ => ?_))
   | exact ih0 _ _ _ _ _ _
   | exact ih1 _ _ _ _ _ _ _ _
  ·intro y0 y1 y2 y3 y4 y5 y6 y7
   unfold spec_ValueSize.l0
   repeat' first
   | (with_reducible exact ih0 _ _ _ _ _ _)
   | (with_reducible exact ih1 _ _ _ _ _ _ _ _)
   | (with_reducible exact LeO.refl _)
   | (with_reducible exact LeO.none _)
   | (with_reducible refine LeO.ite ?_ ?_)
   | (with_reducible refine LeO.bind ?_ (fun _ => ?_))
   | exact ih0 _ _ _ _ _ _
   | exact ih1 _ _ _ _ _ _ _ _
theorem spec_ValueSize.mono : ∀ a0 a1 a2 a3 a4 a5 k, LeO (spec_ValueSize.f k a0 a1 a2 a3 a4 a5) (spec_ValueSize.f (k + 1) a0 a1 a2 a3 a4 a5) := by
 intro a0 a1 a2 a3 a4 a5 k
 obtain ⟨ih0, ih1⟩ := spec_ValueSize.mono_l k
 exact ih0 a0 a1 a2 a3 a4 a5
set_option maxHeartbeats 8000000 in
set_option maxRecDepth 100000 in
theorem spec_ValueSize.calls (k : Nat) : ∀ (a0_0 : Int) (a0_1 : Int) (a0_2 : Int) (a0_3 : ByteArray) (A0_4 : Option Addr) (c0_4 : Nat) (l0_4 : List (S33)) (A0_5 : Option Addr) (c0_5 : Nat) (l0_5 : List ByteArray) (r : Int) (w : World) (hr0_4 : Kd.C k33 w A0_4 l0_4.length l0_4) (hc0_4 : l0_4.length ≤ c0_4) (hr0_5 : Kd.C Kd.string w A0_5 l0_5.length l0_5) (hc0_5 : l0_5.length ≤ c0_5) (h : spec_ValueSize.f k a0_0 a0_1 a0_2 a0_3 l0_4 l0_5 = some r),
  Calls Tryd.prog 13 #[.agg #[.int .i64 a0_0, .int .i64 a0_1, .int .i64 a0_2, .string a0_3, .slice A0_4 l0_4.length c0_4, .slice A0_5 l0_5.length c0_5]] w fun e w' => e = .returned (.int .i64 r) ∧ Below w.heap.size w w' := by
 induction k using Nat.strongRecOn with
 | _ k ih =>
 intro a0_0 a0_1 a0_2 a0_3 A0_4 c0_4 l0_4 A0_5 c0_5 l0_5 r w hr0_4 hc0_4 hr0_5 hc0_5 h
 cases k with
 | zero => exact absurd h (by simp [spec_ValueSize.f])
 | succ k =>
 simp only [spec_ValueSize.f] at h
 have hu33 := Tryd.underlying33
 have HR0_4 := zA hr0_4
 have HC0_4 := zA hc0_4
 clear hr0_4 hc0_4
 have HR0_5 := zA hr0_5
 have HC0_5 := zA hc0_5
 clear hr0_5 hc0_5
 have HB := zA (yG w.heap.size w)
 have H : (spec_ValueSize.l0 k 1 0 a0_0 a0_1 a0_2 a0_3 l0_4 l0_5) = some r := h
 clear h
 have H' := zA H
 clear H
 go_enter Tryd.func13, Tryd.ntmps13
 go_wp2_with (first | ((with_reducible refine zT (N := 1) rfl ?_); refine zW ?hg (N := 1) ?hd (cs := #[.int .i64 a0_0, .int .i64 a0_1, .int .i64 a0_2, .string a0_3, .slice A0_4 l0_4.length c0_4, .slice A0_5 l0_5.length c0_5]) (t := 33) ?hr ?_; (case hd => rfl); (case hg => rfl); (case hr => first | (go_simp; done) | (go_simp; rfl)); intro gb342 hg w2 hbox hb; have BK342 := zA (hbox); have GW342 := zA ((by rw [hg]; exact (zR apA) : w.heap.size ≤ gb342)); have GE342 := zA ((by rw [hg]; exact (zR apA) : w.heap.size ≤ gb342)); replace HB := zA (zQ apA hb); clear hb hbox hg))
 go_loopg [3, 4] k (fun kq v3 v4 w' => ∃ (x3_1 : Int) (x4_1 : Int), v3 = .int .i64 x3_1 ∧ v4 = .int .i64 x4_1 ∧ Aside0 (spec_ValueSize.l0 kq x3_1 x4_1 a0_0 a0_1 a0_2 a0_3 l0_4 l0_5 = some r) ∧ Aside0 (kq ≤ k) ∧ Aside0 (w'.heap[gb342]? = some (.cells #[.int .i64 a0_0, .int .i64 a0_1, .int .i64 a0_2, .string a0_3, (.slice A0_4 l0_4.length c0_4), (.slice A0_5 l0_5.length c0_5)] 33 (0, 0))) ∧ Aside0 (Below w.heap.size w w'))
 case atStart => exact ⟨(1), (0), apB, apB, H', ⟨yH _⟩, ⟨by (with_reducible repeat (first | refine zB ?_ _ | refine zD ?_ | refine zC ?_ _)); exact BK342.out⟩, ⟨by repeat (first | (with_reducible first | exact HB.out | apply zG | apply zE | apply zF | refine zH ?_ GE342.out) | exact HB.out)⟩⟩
 case round =>
  clear H'
  try clear c1 p2
  obtain ⟨x3_1, x4_1, rfl, rfl, HA, HK1, BK342, HB⟩ := hrel
  cases gk with
  | zero => exact absurd HA.out (by simp [spec_ValueSize.l0])
  | succ k1 =>
   have H := HA.out
   clear HA
   simp only [spec_ValueSize.l0] at H
   by_cases c3 : x4_1 < (l0_4.length : Int)
   ·rw [if_pos c3] at H
    have c3b0 : decide (x4_1 < (l0_4.length : Int)) = true := yD c3
    clear c3
    by_cases c4 : 0 ≤ x4_1
    ·rw [if_pos c4] at H
     have c4b0 : decide (0 ≤ x4_1) = true := yD c4
     clear c4
     replace H := Option.bind_eq_some_iff.mp H
     obtain ⟨t344, A50, H⟩ := H
     have A5 := zA A50
     clear A50
     have H' := zA H
     clear H
     obtain ⟨hcz6_0, hcz6_1, hcz6_2, hcz6_3, hcz6_4, hcz6_5, hfz6_0, hfz6_1, hfz6_2, hfz6_3, hfz6_4, hfz6_5⟩ := zb6 BK342.out
     have p343 : 0 ≤ (x4_1 : Int) := yE apC
     have q343 : x4_1 < (l0_4.length : Int) := yE apC
     obtain ⟨ad343, A343_4, c343_4, A343_5, c343_5, e343, hx343_0, hx343_1, hx343_2, hx343_3, hx343_4, hx343_5, hl343_4, hi343_4, hl343_5, hi343_5⟩ := at_T33 HR0_4.out x4_1 p343 q343
     cases e343
     replace hx343_0 := (HB.out.cell (zS w _ hx343_0)).trans hx343_0
     replace hx343_1 := (HB.out.cell (zS w _ hx343_1)).trans hx343_1
     replace hx343_2 := (HB.out.cell (zS w _ hx343_2)).trans hx343_2
     replace hx343_3 := (HB.out.cell (zS w _ hx343_3)).trans hx343_3
     replace hx343_4 := (HB.out.cell (zS w _ hx343_4)).trans hx343_4
     replace hx343_5 := (HB.out.cell (zS w _ hx343_5)).trans hx343_5
     have HR343_4 := zA hi343_4
     have HC343_4 := zA hl343_4
     clear hi343_4 hl343_4
     have HR343_5 := zA hi343_5
     have HC343_5 := zA hl343_5
     clear hi343_5 hl343_5
     replace p343 := eq_true p343
     replace q343 := eq_true q343
     go_wp2_with (first | ((with_reducible refine zV (f := 13) rfl ?_); refine goesL_ (some 18) rfl rfl Tryd.func13 (by kernel_rfl) rfl #[.agg #[.int .i64 ((rd_T33 l0_4 x4_1).f0), .int .i64 ((rd_T33 l0_4 x4_1).f1.f0), .int .i64 ((rd_T33 l0_4 x4_1).f1.f1), .string ((rd_T33 l0_4 x4_1).f2), .slice A343_4 ((rd_T33 l0_4 x4_1).f3).length c343_4, .slice A343_5 ((rd_T33 l0_4 x4_1).f4).length c343_5]] rfl apD ?_; (with_reducible refine (ih k1 (by have := HK1.out; omega) ((rd_T33 l0_4 x4_1).f0) ((rd_T33 l0_4 x4_1).f1.f0) ((rd_T33 l0_4 x4_1).f1.f1) ((rd_T33 l0_4 x4_1).f2) _ _ ((rd_T33 l0_4 x4_1).f3) _ _ ((rd_T33 l0_4 x4_1).f4) t344 _ ?side1 ?side2 ?side3 ?side4 A5.out).mono ?_); (case side1 => exact vc (Kd.C_below HR343_4.out HB.out)); (case side2 => exact HC343_4.out); (case side3 => exact vc (Kd.C_below HR343_5.out HB.out)); (case side4 => exact HC343_5.out); rintro e w7 ⟨rfl, hb⟩; refine ⟨_, rfl, ?_⟩; replace BK342 := zA (zP (g := gb342) (o := .cells #[.int .i64 a0_0, .int .i64 a0_1, .int .i64 a0_2, .string a0_3, .slice (some ad343) l0_4.length c0_4, .slice A0_5 l0_5.length c0_5] 33 (0, 0)) (by (with_reducible repeat (first | refine zB ?_ _ | refine zD ?_ | refine zC ?_ _)); exact BK342.out) hb); replace HB := zA (zQ (by repeat (first | (with_reducible first | exact HB.out | apply zG | apply zE | apply zF | refine zH ?_ GE342.out) | exact HB.out)) hb); (try clear hb); (try clear hb2); (try clear hk); (try clear hi)))
     go_roundg k1
     case measure => have := HK1.out; omega
     case rel => exact ⟨(wrap64 (x3_1 + t344)), (wrap64 (x4_1 + 1)), apB, apB, H', ⟨by have := HK1.out; omega⟩, ⟨by (with_reducible repeat (first | refine zB ?_ _ | refine zD ?_ | refine zC ?_ _)); exact BK342.out⟩, ⟨by repeat (first | (with_reducible first | exact HB.out | apply zG | apply zE | apply zF | refine zH ?_ GE342.out) | exact HB.out)⟩⟩
    ·rw [if_neg c4] at H
     exact absurd H (by simp)
   ·rw [if_neg c3] at H
    have c3b0 : decide (x4_1 < (l0_4.length : Int)) = false := decide_eq_false c3
    clear c3
    obtain rfl := yF H
    obtain ⟨hcz8_0, hcz8_1, hcz8_2, hcz8_3, hcz8_4, hcz8_5, hfz8_0, hfz8_1, hfz8_2, hfz8_3, hfz8_4, hfz8_5⟩ := zb6 BK342.out
    go_wp2
    go_ret
    exact ⟨apE, by repeat (first | (with_reducible first | exact HB.out | apply zG | apply zE | apply zF | refine zH ?_ GE342.out) | exact HB.out)⟩


mutual
def spec_l7Deep.l0 : Nat → Int → Int → Int → Int → Int → ByteArray → List (S33) → List ByteArray → Option (Int)
 | 0, _, _, _, _, _, _, _, _ => none
 | k + 1, x3, x4, x346000, x346001, x346002, x346003, x346004, x346005 => if x4 < (x346004.length : Int) then (if 0 ≤ x4 then ((spec_l7Deep.f k ((rd_T33 x346004 x4).f0) ((rd_T33 x346004 x4).f1.f0) ((rd_T33 x346004 x4).f1.f1) ((rd_T33 x346004 x4).f2) ((rd_T33 x346004 x4).f3) ((rd_T33 x346004 x4).f4)).bind fun t347 => (if t347 > x3 then (spec_l7Deep.l0 k t347 (wrap64 (x4 + 1)) x346000 x346001 x346002 x346003 x346004 x346005) else (spec_l7Deep.l0 k x3 (wrap64 (x4 + 1)) x346000 x346001 x346002 x346003 x346004 x346005))) else (none)) else (some (wrap64 (x3 + 1)))
def spec_l7Deep.f : Nat → Int → Int → Int → ByteArray → List (S33) → List ByteArray → Option (Int)
 | 0, _, _, _, _, _, _ => none
 | k + 1, a0_0, a0_1, a0_2, a0_3, l0_4, l0_5 => spec_l7Deep.l0 k 0 0 a0_0 a0_1 a0_2 a0_3 l0_4 l0_5
end
theorem spec_l7Deep.mono_l : ∀ k, (∀ y0 y1 y2 y3 y4 y5, LeO (spec_l7Deep.f k y0 y1 y2 y3 y4 y5) (spec_l7Deep.f (k + 1) y0 y1 y2 y3 y4 y5)) ∧ (∀ y0 y1 y2 y3 y4 y5 y6 y7, LeO (spec_l7Deep.l0 k y0 y1 y2 y3 y4 y5 y6 y7) (spec_l7Deep.l0 (k + 1) y0 y1 y2 y3 y4 y5 y6 y7))
 | 0 => ⟨fun _ _ _ _ _ _ r h => by simp [spec_l7Deep.f] at h, fun _ _ _ _ _ _ _ _ r h => by simp [spec_l7Deep.l0] at h⟩
 | k + 1 => by
  obtain ⟨ih0, ih1⟩ := spec_l7Deep.mono_l k
  refine ⟨?_, ?_⟩
  ·intro y0 y1 y2 y3 y4 y5
   unfold spec_l7Deep.f
   repeat' first
   | (with_reducible exact ih0 _ _ _ _ _ _)
   | (with_reducible exact ih1 _ _ _ _ _ _ _ _)
   | (with_reducible exact LeO.refl _)
   | (with_reducible exact LeO.none _)
   | (with_reducible refine LeO.ite ?_ ?_)
   | (with_reducible refine LeO.bind ?_ (fun _ => ?_))
   | exact ih0 _ _ _ _ _ _
   | exact ih1 _ _ _ _ _ _ _ _
  ·intro y0 y1 y2 y3 y4 y5 y6 y7
   unfold spec_l7Deep.l0
   repeat' first
   | (with_reducible exact ih0 _ _ _ _ _ _)
   | (with_reducible exact ih1 _ _ _ _ _ _ _ _)
   | (with_reducible exact LeO.refl _)
   | (with_reducible exact LeO.none _)
   | (with_reducible refine LeO.ite ?_ ?_)
   | (with_reducible refine LeO.bind ?_ (fun _ => ?_))
   | exact ih0 _ _ _ _ _ _
   | exact ih1 _ _ _ _ _ _ _ _
theorem spec_l7Deep.mono : ∀ a0 a1 a2 a3 a4 a5 k, LeO (spec_l7Deep.f k a0 a1 a2 a3 a4 a5) (spec_l7Deep.f (k + 1) a0 a1 a2 a3 a4 a5) := by
 intro a0 a1 a2 a3 a4 a5 k
 obtain ⟨ih0, ih1⟩ := spec_l7Deep.mono_l k
 exact ih0 a0 a1 a2 a3 a4 a5
set_option maxHeartbeats 8000000 in
set_option maxRecDepth 100000 in
theorem spec_l7Deep.calls (k : Nat) : ∀ (a0_0 : Int) (a0_1 : Int) (a0_2 : Int) (a0_3 : ByteArray) (A0_4 : Option Addr) (c0_4 : Nat) (l0_4 : List (S33)) (A0_5 : Option Addr) (c0_5 : Nat) (l0_5 : List ByteArray) (r : Int) (w : World) (hr0_4 : Kd.C k33 w A0_4 l0_4.length l0_4) (hc0_4 : l0_4.length ≤ c0_4) (hr0_5 : Kd.C Kd.string w A0_5 l0_5.length l0_5) (hc0_5 : l0_5.length ≤ c0_5) (h : spec_l7Deep.f k a0_0 a0_1 a0_2 a0_3 l0_4 l0_5 = some r),
  Calls Tryd.prog 19 #[.agg #[.int .i64 a0_0, .int .i64 a0_1, .int .i64 a0_2, .string a0_3, .slice A0_4 l0_4.length c0_4, .slice A0_5 l0_5.length c0_5]] w fun e w' => e = .returned (.int .i64 r) ∧ Below w.heap.size w w' := by
 induction k using Nat.strongRecOn with
 | _ k ih =>
 intro a0_0 a0_1 a0_2 a0_3 A0_4 c0_4 l0_4 A0_5 c0_5 l0_5 r w hr0_4 hc0_4 hr0_5 hc0_5 h
 cases k with
 | zero => exact absurd h (by simp [spec_l7Deep.f])
 | succ k =>
 simp only [spec_l7Deep.f] at h
 have hu33 := Tryd.underlying33
 have HR0_4 := zA hr0_4
 have HC0_4 := zA hc0_4
 clear hr0_4 hc0_4
 have HR0_5 := zA hr0_5
 have HC0_5 := zA hc0_5
 clear hr0_5 hc0_5
 have HB := zA (yG w.heap.size w)
 have H : (spec_l7Deep.l0 k 0 0 a0_0 a0_1 a0_2 a0_3 l0_4 l0_5) = some r := h
 clear h
 have H' := zA H
 clear H
 go_enter Tryd.func19, Tryd.ntmps19
 go_wp2_with (first | ((with_reducible refine zT (N := 1) rfl ?_); refine zW ?hg (N := 1) ?hd (cs := #[.int .i64 a0_0, .int .i64 a0_1, .int .i64 a0_2, .string a0_3, .slice A0_4 l0_4.length c0_4, .slice A0_5 l0_5.length c0_5]) (t := 33) ?hr ?_; (case hd => rfl); (case hg => rfl); (case hr => first | (go_simp; done) | (go_simp; rfl)); intro gb345 hg w2 hbox hb; have BK345 := zA (hbox); have GW345 := zA ((by rw [hg]; exact (zR apA) : w.heap.size ≤ gb345)); have GE345 := zA ((by rw [hg]; exact (zR apA) : w.heap.size ≤ gb345)); replace HB := zA (zQ apA hb); clear hb hbox hg))
 go_loopg [3, 4] k (fun kq v3 v4 w' => ∃ (x3_1 : Int) (x4_1 : Int), v3 = .int .i64 x3_1 ∧ v4 = .int .i64 x4_1 ∧ Aside0 (spec_l7Deep.l0 kq x3_1 x4_1 a0_0 a0_1 a0_2 a0_3 l0_4 l0_5 = some r) ∧ Aside0 (kq ≤ k) ∧ Aside0 (w'.heap[gb345]? = some (.cells #[.int .i64 a0_0, .int .i64 a0_1, .int .i64 a0_2, .string a0_3, (.slice A0_4 l0_4.length c0_4), (.slice A0_5 l0_5.length c0_5)] 33 (0, 0))) ∧ Aside0 (Below w.heap.size w w'))
 case atStart => exact ⟨(0), (0), apB, apB, H', ⟨yH _⟩, ⟨by (with_reducible repeat (first | refine zB ?_ _ | refine zD ?_ | refine zC ?_ _)); exact BK345.out⟩, ⟨by repeat (first | (with_reducible first | exact HB.out | apply zG | apply zE | apply zF | refine zH ?_ GE345.out) | exact HB.out)⟩⟩
 case round =>
  clear H'
  try clear c1 p2
  obtain ⟨x3_1, x4_1, rfl, rfl, HA, HK1, BK345, HB⟩ := hrel
  cases gk with
  | zero => exact absurd HA.out (by simp [spec_l7Deep.l0])
  | succ k1 =>
   have H := HA.out
   clear HA
   simp only [spec_l7Deep.l0] at H
   by_cases c3 : x4_1 < (l0_4.length : Int)
   ·rw [if_pos c3] at H
    have c3b0 : decide (x4_1 < (l0_4.length : Int)) = true := yD c3
    clear c3
    by_cases c4 : 0 ≤ x4_1
    ·rw [if_pos c4] at H
     have c4b0 : decide (0 ≤ x4_1) = true := yD c4
     clear c4
     replace H := Option.bind_eq_some_iff.mp H
     obtain ⟨t347, A50, H⟩ := H
     have A5 := zA A50
     clear A50
     by_cases c6 : t347 > x3_1
     ·rw [if_pos c6] at H
      have c6b0 : decide (x3_1 < t347) = true := yD c6
      clear c6
      have H' := zA H
      clear H
      obtain ⟨hcz7_0, hcz7_1, hcz7_2, hcz7_3, hcz7_4, hcz7_5, hfz7_0, hfz7_1, hfz7_2, hfz7_3, hfz7_4, hfz7_5⟩ := zb6 BK345.out
      have p346 : 0 ≤ (x4_1 : Int) := yE apC
      have q346 : x4_1 < (l0_4.length : Int) := yE apC
      obtain ⟨ad346, A346_4, c346_4, A346_5, c346_5, e346, hx346_0, hx346_1, hx346_2, hx346_3, hx346_4, hx346_5, hl346_4, hi346_4, hl346_5, hi346_5⟩ := at_T33 HR0_4.out x4_1 p346 q346
      cases e346
      replace hx346_0 := (HB.out.cell (zS w _ hx346_0)).trans hx346_0
      replace hx346_1 := (HB.out.cell (zS w _ hx346_1)).trans hx346_1
      replace hx346_2 := (HB.out.cell (zS w _ hx346_2)).trans hx346_2
      replace hx346_3 := (HB.out.cell (zS w _ hx346_3)).trans hx346_3
      replace hx346_4 := (HB.out.cell (zS w _ hx346_4)).trans hx346_4
      replace hx346_5 := (HB.out.cell (zS w _ hx346_5)).trans hx346_5
      have HR346_4 := zA hi346_4
      have HC346_4 := zA hl346_4
      clear hi346_4 hl346_4
      have HR346_5 := zA hi346_5
      have HC346_5 := zA hl346_5
      clear hi346_5 hl346_5
      replace p346 := eq_true p346
      replace q346 := eq_true q346
      go_wp2_with (first | ((with_reducible refine zV (f := 19) rfl ?_); refine goesL_ (some 18) rfl rfl Tryd.func19 (by kernel_rfl) rfl #[.agg #[.int .i64 ((rd_T33 l0_4 x4_1).f0), .int .i64 ((rd_T33 l0_4 x4_1).f1.f0), .int .i64 ((rd_T33 l0_4 x4_1).f1.f1), .string ((rd_T33 l0_4 x4_1).f2), .slice A346_4 ((rd_T33 l0_4 x4_1).f3).length c346_4, .slice A346_5 ((rd_T33 l0_4 x4_1).f4).length c346_5]] rfl apD ?_; (with_reducible refine (ih k1 (by have := HK1.out; omega) ((rd_T33 l0_4 x4_1).f0) ((rd_T33 l0_4 x4_1).f1.f0) ((rd_T33 l0_4 x4_1).f1.f1) ((rd_T33 l0_4 x4_1).f2) _ _ ((rd_T33 l0_4 x4_1).f3) _ _ ((rd_T33 l0_4 x4_1).f4) t347 _ ?side1 ?side2 ?side3 ?side4 A5.out).mono ?_); (case side1 => exact vc (Kd.C_below HR346_4.out HB.out)); (case side2 => exact HC346_4.out); (case side3 => exact vc (Kd.C_below HR346_5.out HB.out)); (case side4 => exact HC346_5.out); rintro e w8 ⟨rfl, hb⟩; refine ⟨_, rfl, ?_⟩; replace BK345 := zA (zP (g := gb345) (o := .cells #[.int .i64 a0_0, .int .i64 a0_1, .int .i64 a0_2, .string a0_3, .slice (some ad346) l0_4.length c0_4, .slice A0_5 l0_5.length c0_5] 33 (0, 0)) (by (with_reducible repeat (first | refine zB ?_ _ | refine zD ?_ | refine zC ?_ _)); exact BK345.out) hb); replace HB := zA (zQ (by repeat (first | (with_reducible first | exact HB.out | apply zG | apply zE | apply zF | refine zH ?_ GE345.out) | exact HB.out)) hb); (try clear hb); (try clear hb2); (try clear hk); (try clear hi)))
      go_roundg k1
      case measure => have := HK1.out; omega
      case rel => exact ⟨(t347), (wrap64 (x4_1 + 1)), apB, apB, H', ⟨by have := HK1.out; omega⟩, ⟨by (with_reducible repeat (first | refine zB ?_ _ | refine zD ?_ | refine zC ?_ _)); exact BK345.out⟩, ⟨by repeat (first | (with_reducible first | exact HB.out | apply zG | apply zE | apply zF | refine zH ?_ GE345.out) | exact HB.out)⟩⟩
     ·rw [if_neg c6] at H
      have c6b0 : decide (x3_1 < t347) = false := decide_eq_false c6
      clear c6
      have H' := zA H
      clear H
      obtain ⟨hcz9_0, hcz9_1, hcz9_2, hcz9_3, hcz9_4, hcz9_5, hfz9_0, hfz9_1, hfz9_2, hfz9_3, hfz9_4, hfz9_5⟩ := zb6 BK345.out
      have p346 : 0 ≤ (x4_1 : Int) := yE apC
      have q346 : x4_1 < (l0_4.length : Int) := yE apC
      obtain ⟨ad346, A346_4, c346_4, A346_5, c346_5, e346, hx346_0, hx346_1, hx346_2, hx346_3, hx346_4, hx346_5, hl346_4, hi346_4, hl346_5, hi346_5⟩ := at_T33 HR0_4.out x4_1 p346 q346
      cases e346
      replace hx346_0 := (HB.out.cell (zS w _ hx346_0)).trans hx346_0
      replace hx346_1 := (HB.out.cell (zS w _ hx346_1)).trans hx346_1
      replace hx346_2 := (HB.out.cell (zS w _ hx346_2)).trans hx346_2
      replace hx346_3 := (HB.out.cell (zS w _ hx346_3)).trans hx346_3
      replace hx346_4 := (HB.out.cell (zS w _ hx346_4)).trans hx346_4
      replace hx346_5 := (HB.out.cell (zS w _ hx346_5)).trans hx346_5
      have HR346_4 := zA hi346_4
      have HC346_4 := zA hl346_4
      clear hi346_4 hl346_4
      have HR346_5 := zA hi346_5
      have HC346_5 := zA hl346_5
      clear hi346_5 hl346_5
      replace p346 := eq_true p346
      replace q346 := eq_true q346
      go_wp2_with (first | ((with_reducible refine zV (f := 19) rfl ?_); refine goesL_ (some 18) rfl rfl Tryd.func19 (by kernel_rfl) rfl #[.agg #[.int .i64 ((rd_T33 l0_4 x4_1).f0), .int .i64 ((rd_T33 l0_4 x4_1).f1.f0), .int .i64 ((rd_T33 l0_4 x4_1).f1.f1), .string ((rd_T33 l0_4 x4_1).f2), .slice A346_4 ((rd_T33 l0_4 x4_1).f3).length c346_4, .slice A346_5 ((rd_T33 l0_4 x4_1).f4).length c346_5]] rfl apD ?_; (with_reducible refine (ih k1 (by have := HK1.out; omega) ((rd_T33 l0_4 x4_1).f0) ((rd_T33 l0_4 x4_1).f1.f0) ((rd_T33 l0_4 x4_1).f1.f1) ((rd_T33 l0_4 x4_1).f2) _ _ ((rd_T33 l0_4 x4_1).f3) _ _ ((rd_T33 l0_4 x4_1).f4) t347 _ ?side1 ?side2 ?side3 ?side4 A5.out).mono ?_); (case side1 => exact vc (Kd.C_below HR346_4.out HB.out)); (case side2 => exact HC346_4.out); (case side3 => exact vc (Kd.C_below HR346_5.out HB.out)); (case side4 => exact HC346_5.out); rintro e w10 ⟨rfl, hb⟩; refine ⟨_, rfl, ?_⟩; replace BK345 := zA (zP (g := gb345) (o := .cells #[.int .i64 a0_0, .int .i64 a0_1, .int .i64 a0_2, .string a0_3, .slice (some ad346) l0_4.length c0_4, .slice A0_5 l0_5.length c0_5] 33 (0, 0)) (by (with_reducible repeat (first | refine zB ?_ _ | refine zD ?_ | refine zC ?_ _)); exact BK345.out) hb); replace HB := zA (zQ (by repeat (first | (with_reducible first | exact HB.out | apply zG | apply zE | apply zF | refine zH ?_ GE345.out) | exact HB.out)) hb); (try clear hb); (try clear hb2); (try clear hk); (try clear hi)))
      go_roundg k1
      case measure => have := HK1.out; omega
      case rel => exact ⟨(x3_1), (wrap64 (x4_1 + 1)), apB, apB, H', ⟨by have := HK1.out; omega⟩, ⟨by (with_reducible repeat (first | refine zB ?_ _ | refine zD ?_ | refine zC ?_ _)); exact BK345.out⟩, ⟨by repeat (first | (with_reducible first | exact HB.out | apply zG | apply zE | apply zF | refine zH ?_ GE345.out) | exact HB.out)⟩⟩
    ·rw [if_neg c4] at H
     exact absurd H (by simp)
   ·rw [if_neg c3] at H
    have c3b0 : decide (x4_1 < (l0_4.length : Int)) = false := decide_eq_false c3
    clear c3
    obtain rfl := yF H
    obtain ⟨hcz11_0, hcz11_1, hcz11_2, hcz11_3, hcz11_4, hcz11_5, hfz11_0, hfz11_1, hfz11_2, hfz11_3, hfz11_4, hfz11_5⟩ := zb6 BK345.out
    go_wp2
    go_ret
    exact ⟨apE, by repeat (first | (with_reducible first | exact HB.out | apply zG | apply zE | apply zF | refine zH ?_ GE345.out) | exact HB.out)⟩


def spec_DecOk.f (a0_0 : Int) (a0_1 : Int) : Option (Bool) := if a0_0 = 0 then (some (a0_1 == 0)) else ((spec_l1In.f a0_0 (-99999999) 99999999).bind fun t111 => (if t111 = true then ((spec_l1In.f a0_1 (-8) 8).bind fun t112 => (if t112 = true then (some ((Int.tmod a0_0 10) != 0)) else (some false))) else (some false)))
set_option maxHeartbeats 8000000 in
set_option maxRecDepth 100000 in
theorem spec_DecOk.calls (a0_0 : Int) (a0_1 : Int) (r : Bool) (w : World) (h : spec_DecOk.f a0_0 a0_1 = some r) :
  Calls Tryd.prog 49 #[.agg #[.int .i64 a0_0, .int .i64 a0_1]] w fun e w' => e = .returned (.bool r) ∧ Below w.heap.size w w' := by
 have hu30 := Tryd.underlying30
 have HB := zA (yG w.heap.size w)
 have H : (if a0_0 = 0 then (some (a0_1 == 0)) else ((spec_l1In.f a0_0 (-99999999) 99999999).bind fun t111 => (if t111 = true then ((spec_l1In.f a0_1 (-8) 8).bind fun t112 => (if t112 = true then (some ((Int.tmod a0_0 10) != 0)) else (some false))) else (some false)))) = some r := h
 clear h
 by_cases c2 : a0_0 = 0
 ·rw [if_pos c2] at H
  have c2b0 : (a0_0 == 0) = true := beq_iff_eq.mpr c2
  have c2b1 : (a0_0 != 0) = false := bne_eq_false_iff_eq.mpr c2
  clear c2
  obtain rfl := yF H
  go_enter Tryd.func49, Tryd.ntmps49
  go_wp2_with (first | ((with_reducible refine zT (N := 1) rfl ?_); refine zW ?hg (N := 1) ?hd (cs := #[.int .i64 a0_0, .int .i64 a0_1]) (t := 30) ?hr ?_; (case hd => rfl); (case hg => rfl); (case hr => first | (go_simp; done) | (go_simp; rfl)); intro gb110 hg w3 hbox hb; have BK110 := zA (hbox); have GW110 := zA ((by rw [hg]; exact (zR apA) : w.heap.size ≤ gb110)); have GE110 := zA ((by rw [hg]; exact (zR apA) : w.heap.size ≤ gb110)); replace HB := zA (zQ apA hb); clear hb hbox hg; obtain ⟨hcz4_0, hcz4_1, hfz4_0, hfz4_1⟩ := zb2 BK110.out))
  go_ret
  exact ⟨apE, by repeat (first | (with_reducible first | exact HB.out | apply zG | apply zE | apply zF | refine zH ?_ GE110.out) | exact HB.out)⟩
 ·rw [if_neg c2] at H
  have c2b0 : (a0_0 == 0) = false := beq_eq_false_iff_ne.mpr c2
  have c2b1 : (a0_0 != 0) = true := bne_iff_ne.mpr c2
  replace H := Option.bind_eq_some_iff.mp H
  obtain ⟨t111, A50, H⟩ := H
  have A5 := zA A50
  clear A50
  by_cases c6 : t111 = true
  ·subst c6
   have H1 := H; rw [if_pos rfl] at H1
   clear H
   have H := H1
   clear H1
   replace H := Option.bind_eq_some_iff.mp H
   obtain ⟨t112, A70, H⟩ := H
   have A7 := zA A70
   clear A70
   by_cases c8 : t112 = true
   ·subst c8
    have H1 := H; rw [if_pos rfl] at H1
    clear H
    have H := H1
    clear H1
    obtain rfl := yF H
    go_enter Tryd.func49, Tryd.ntmps49
    go_wp2_with (first | ((with_reducible refine zT (N := 1) rfl ?_); refine zW ?hg (N := 1) ?hd (cs := #[.int .i64 a0_0, .int .i64 a0_1]) (t := 30) ?hr ?_; (case hd => rfl); (case hg => rfl); (case hr => first | (go_simp; done) | (go_simp; rfl)); intro gb110 hg w9 hbox hb; have BK110 := zA (hbox); have GW110 := zA ((by rw [hg]; exact (zR apA) : w.heap.size ≤ gb110)); have GE110 := zA ((by rw [hg]; exact (zR apA) : w.heap.size ≤ gb110)); replace HB := zA (zQ apA hb); clear hb hbox hg; obtain ⟨hcz10_0, hcz10_1, hfz10_0, hfz10_1⟩ := zb2 BK110.out) | ((with_reducible refine zV (f := 66) rfl ?_); refine goesL_ (some 11) rfl rfl Tryd.func66 (by kernel_rfl) rfl #[.int .i64 a0_0, .int .i64 (-99999999), .int .i64 99999999] rfl apD ?_; (with_reducible refine (spec_l1In.calls a0_0 (-99999999) 99999999 true _ A5.out).mono ?_); rintro e w' ⟨rfl, ⟨nd, rfl⟩⟩; refine ⟨_, rfl, ?_⟩) | (go_at_call 66; (with_reducible refine (spec_l1In.calls a0_1 (-8) 8 true _ A7.out).mono ?_); rintro e w' ⟨rfl, ⟨nd, rfl⟩⟩))
    go_ret
    exact ⟨apE, by repeat (first | (with_reducible first | exact HB.out | apply zG | apply zE | apply zF | refine zH ?_ GE110.out) | exact HB.out)⟩
   ·replace c8 := Bool.eq_false_iff.mpr c8
    subst c8
    have H1 := H; rw [if_neg (show ¬ (false = true) by decide)] at H1
    clear H
    have H := H1
    clear H1
    obtain rfl := yF H
    go_enter Tryd.func49, Tryd.ntmps49
    go_wp2_with (first | ((with_reducible refine zT (N := 1) rfl ?_); refine zW ?hg (N := 1) ?hd (cs := #[.int .i64 a0_0, .int .i64 a0_1]) (t := 30) ?hr ?_; (case hd => rfl); (case hg => rfl); (case hr => first | (go_simp; done) | (go_simp; rfl)); intro gb110 hg w11 hbox hb; have BK110 := zA (hbox); have GW110 := zA ((by rw [hg]; exact (zR apA) : w.heap.size ≤ gb110)); have GE110 := zA ((by rw [hg]; exact (zR apA) : w.heap.size ≤ gb110)); replace HB := zA (zQ apA hb); clear hb hbox hg; obtain ⟨hcz12_0, hcz12_1, hfz12_0, hfz12_1⟩ := zb2 BK110.out) | ((with_reducible refine zV (f := 66) rfl ?_); refine goesL_ (some 11) rfl rfl Tryd.func66 (by kernel_rfl) rfl #[.int .i64 a0_0, .int .i64 (-99999999), .int .i64 99999999] rfl apD ?_; (with_reducible refine (spec_l1In.calls a0_0 (-99999999) 99999999 true _ A5.out).mono ?_); rintro e w' ⟨rfl, ⟨nd, rfl⟩⟩; refine ⟨_, rfl, ?_⟩) | (go_at_call 66; (with_reducible refine (spec_l1In.calls a0_1 (-8) 8 false _ A7.out).mono ?_); rintro e w' ⟨rfl, ⟨nd, rfl⟩⟩))
    go_ret
    exact ⟨apE, apA⟩
  ·replace c6 := Bool.eq_false_iff.mpr c6
   subst c6
   have H1 := H; rw [if_neg (show ¬ (false = true) by decide)] at H1
   clear H
   have H := H1
   clear H1
   obtain rfl := yF H
   go_enter Tryd.func49, Tryd.ntmps49
   go_wp2_with (first | ((with_reducible refine zT (N := 1) rfl ?_); refine zW ?hg (N := 1) ?hd (cs := #[.int .i64 a0_0, .int .i64 a0_1]) (t := 30) ?hr ?_; (case hd => rfl); (case hg => rfl); (case hr => first | (go_simp; done) | (go_simp; rfl)); intro gb110 hg w13 hbox hb; have BK110 := zA (hbox); have GW110 := zA ((by rw [hg]; exact (zR apA) : w.heap.size ≤ gb110)); have GE110 := zA ((by rw [hg]; exact (zR apA) : w.heap.size ≤ gb110)); replace HB := zA (zQ apA hb); clear hb hbox hg; obtain ⟨hcz14_0, hcz14_1, hfz14_0, hfz14_1⟩ := zb2 BK110.out) | ((with_reducible refine zV (f := 66) rfl ?_); refine goesL_ (some 11) rfl rfl Tryd.func66 (by kernel_rfl) rfl #[.int .i64 a0_0, .int .i64 (-99999999), .int .i64 99999999] rfl apD ?_; (with_reducible refine (spec_l1In.calls a0_0 (-99999999) 99999999 false _ A5.out).mono ?_); rintro e w' ⟨rfl, ⟨nd, rfl⟩⟩; refine ⟨_, rfl, ?_⟩))
   go_ret
   exact ⟨apE, apA⟩


def spec_l7Names.l0 : Nat → List ByteArray → Int → Option (Bool)
 | 0, _, _ => none
 | k + 1, x0, x3 => if x3 < (x0.length : Int) then (if 0 ≤ x3 then ((spec_NameOk.f k (rdOf ByteArray.empty x0 x3)).bind fun t360 => (if t360 = true then (if x3 > 0 then (if 0 ≤ (wrap64 (x3 - 1)) then (if (wrap64 (x3 - 1)) < (x0.length : Int) then (if ((Op.bytesLess ((rdOf ByteArray.empty x0 (wrap64 (x3 - 1))).toList) ((rdOf ByteArray.empty x0 x3).toList)) = true) then (spec_l7Names.l0 k x0 (wrap64 (x3 + 1))) else (some false)) else (none)) else (none)) else (spec_l7Names.l0 k x0 (wrap64 (x3 + 1)))) else (some false))) else (none)) else (some true)
def spec_l7Names.f (k : Nat) (l0 : List ByteArray) : Option (Bool) := spec_l7Names.l0 k l0 0
theorem spec_l7Names.mono_l : ∀ k, (∀ y0 y1, LeO (spec_l7Names.l0 k y0 y1) (spec_l7Names.l0 (k + 1) y0 y1))
 | 0 => fun _ _ r h => by simp [spec_l7Names.l0] at h
 | k + 1 => by
  have ih0 := spec_l7Names.mono_l k
  ·intro y0 y1
   unfold spec_l7Names.l0
   repeat' first
   | (with_reducible exact ih0 _ _)
   | (with_reducible exact spec_NameOk.mono _ _)
   | (with_reducible exact LeO.refl _)
   | (with_reducible exact LeO.none _)
   | (with_reducible refine LeO.ite ?_ ?_)
   | (with_reducible refine LeO.bind ?_ (fun _ => ?_))
   | exact ih0 _ _
theorem spec_l7Names.mono : ∀ a0 k, LeO (spec_l7Names.f k a0) (spec_l7Names.f (k + 1) a0) := by
 intro a0 k
 have ih0 := spec_l7Names.mono_l k
 unfold spec_l7Names.f
 repeat' first
   | (with_reducible exact ih0 _ _)
   | (with_reducible exact spec_NameOk.mono _ _)
   | (with_reducible exact LeO.refl _)
   | (with_reducible exact LeO.none _)
   | (with_reducible refine LeO.ite ?_ ?_)
   | (with_reducible refine LeO.bind ?_ (fun _ => ?_))
   | exact ih0 _ _
def spec_l7Names.T4 : Bool × List (List Nat × List Nat) := (true, [([], []), ([], []), ([0, 1], [0, 1]), ([2], [2]), ([3], [3]), ([4], [4]), ([5, 4], [5]), ([6], [6]), ([7, 6], [6, 7]), ([8, 6, 6], [6, 8]), ([9], [9]), ([9], [9]), ([11, 9], [9, 11]), ([10, 12, 9], [9, 10, 12]), ([13, 9], [9, 13]), ([9], [9]), ([9], [9]), ([15, 16, 9], [9, 15, 16]), ([17, 9], [9, 17]), ([14, 18, 9], [9, 14, 18]), ([9, 19, 6], [6, 9, 19]), ([6, 20], [6, 20])])
def spec_l7Names.B4 : List Nat := [0, 0, 3, 7, 15, 31, 63, 127, 255, 511, 1023, 1023, 3071, 8191, 16383, 1023, 1023, 99327, 230399, 524287, 1048575, 2097151]
theorem spec_l7Names.tab4 : rtab .any (opsOf Tryd.f50 4) = spec_l7Names.T4 := by kernel_rfl
theorem spec_l7Names.bits4 : waitsOk spec_l7Names.T4.2 spec_l7Names.B4 = true := by kernel_rfl
set_option maxHeartbeats 8000000 in
set_option maxRecDepth 100000 in
theorem spec_l7Names.calls (k : Nat) (A0 : Option Addr) (c0 : Nat) (l0 : List ByteArray) (r : Bool) (w : World) (hr0 : Kd.C Kd.string w A0 l0.length l0) (hc0 : l0.length ≤ c0) (h : spec_l7Names.f k l0 = some r) :
  Calls Tryd.prog 50 #[.slice A0 l0.length c0] w fun e w' => e = .returned (.bool r) ∧ Below w.heap.size w w' := by
 have HR0 := zA hr0
 have HC0 := zA hc0
 clear hr0 hc0
 have HB := zA (yG w.heap.size w)
 have H : (spec_l7Names.l0 k l0 0) = some r := h
 clear h
 have H' := zA H
 clear H
 go_enter Tryd.func50, Tryd.ntmps50
 go_wp2
 go_loopg [3] k (fun kq v3 w' => ∃ (x3_1 : Int), v3 = .int .i64 x3_1 ∧ Aside0 (spec_l7Names.l0 kq l0 x3_1 = some r) ∧ Aside0 (kq ≤ k) ∧ Aside0 (Below w.heap.size w w'))
 case atStart => exact ⟨(0), apB, H', ⟨yH _⟩, ⟨apA⟩⟩
 case round =>
  clear H'
  obtain ⟨x3_1, rfl, HA, HK1, HB⟩ := hrel
  cases gk with
  | zero => exact absurd HA.out (by simp [spec_l7Names.l0])
  | succ k1 =>
   have H := HA.out
   clear HA
   simp only [spec_l7Names.l0] at H
   by_cases c2 : x3_1 < (l0.length : Int)
   ·rw [if_pos c2] at H
    have c2b0 : decide (x3_1 < (l0.length : Int)) = true := yD c2
    clear c2
    by_cases c3 : 0 ≤ x3_1
    ·rw [if_pos c3] at H
     have c3b0 : decide (0 ≤ x3_1) = true := yD c3
     clear c3
     replace H := Option.bind_eq_some_iff.mp H
     obtain ⟨t360, A40, H⟩ := H
     have A4 := zA A40
     clear A40
     by_cases c5 : t360 = true
     ·subst c5
      have H1 := H; rw [if_pos rfl] at H1
      clear H
      have H := H1
      clear H1
      by_cases c6 : x3_1 > 0
      ·rw [if_pos c6] at H
       have c6b0 : decide (0 < x3_1) = true := yD c6
       clear c6
       obtain ⟨ji7, hji7⟩ : ∃ j_ : Int, (wrap64 (x3_1 - 1)) = j_ := ⟨_, rfl⟩
       replace H : (if 0 ≤ (ji7) then (if (ji7) < (l0.length : Int) then (if ((Op.bytesLess ((rdOf ByteArray.empty l0 (ji7)).toList) ((rdOf ByteArray.empty l0 x3_1).toList)) = true) then (spec_l7Names.l0 k1 l0 (wrap64 (x3_1 + 1))) else (some false)) else (none)) else (none)) = some r := by first | (rw [hji7] at H; exact H) | (simp only [hji7] at H ⊢; exact H)
       (try rw [hji7] at A4)
       have hji7w : (IntKind.i64.wrap (x3_1 - 1)) = ji7 := (i64_w _).trans hji7
       by_cases c8 : 0 ≤ (ji7)
       ·rw [if_pos c8] at H
        have c8b0 : decide (0 ≤ (ji7)) = true := yD c8
        clear c8
        by_cases c9 : (ji7) < (l0.length : Int)
        ·rw [if_pos c9] at H
         have c9b0 : decide ((ji7) < (l0.length : Int)) = true := yD c9
         clear c9
         by_cases c10 : ((Op.bytesLess ((rdOf ByteArray.empty l0 (ji7)).toList) ((rdOf ByteArray.empty l0 x3_1).toList)) = true)
         ·rw [if_pos c10] at H
          have c10b0 : (Op.bytesLess ((rdOf ByteArray.empty l0 (ji7)).toList) ((rdOf ByteArray.empty l0 x3_1).toList)) = true := c10
          clear c10
          have H' := zA H
          clear H
          try go_wp2
          replace HB := zA (zF HB.out)
          have p359 : 0 ≤ (x3_1 : Int) := yE apC
          have q359 : x3_1 < (l0.length : Int) := yE apC
          obtain ⟨ad359, e359, hx359_0⟩ := Kd.at_string HR0.out x3_1 p359 q359
          have hw359_0 := hx359_0
          cases e359
          replace hx359_0 := (HB.out.cell (zS w _ hx359_0)).trans hx359_0
          replace p359 := eq_true p359
          replace q359 := eq_true q359
          have p361 : 0 ≤ ((ji7) : Int) := yE apC
          have q361 : (ji7) < (l0.length : Int) := yE apC
          obtain ⟨ad361, e361, hx361_0⟩ := Kd.at_string HR0.out (ji7) p361 q361
          have hw361_0 := hx361_0
          obtain rfl : ad359 = ad361 := (by injection e361)
          replace hx361_0 := (HB.out.cell (zS w _ hx361_0)).trans hx361_0
          replace p361 := eq_true p361
          replace q361 := eq_true q361
          have p362 : 0 ≤ (x3_1 : Int) := yE apC
          have q362 : x3_1 < (l0.length : Int) := yE apC
          obtain ⟨ad362, e362, hx362_0⟩ := Kd.at_string HR0.out x3_1 p362 q362
          have hw362_0 := hx362_0
          obtain rfl : ad359 = ad362 := (by injection e362)
          replace hx362_0 := (HB.out.cell (zS w _ hx362_0)).trans hx362_0
          replace p362 := eq_true p362
          replace q362 := eq_true q362
          refine start_ (n := 22) (S := fun w' => w'.cell? (ad359.add (x3_1).toNat) = some (.string (rdOf ByteArray.empty l0 x3_1)) ∧ w'.cell? (ad359.add ((ji7)).toNat) = some (.string (rdOf ByteArray.empty l0 (ji7))) ∧ w'.cell? (ad359.add (x3_1).toNat) = some (.string (rdOf ByteArray.empty l0 x3_1))) (ds := []) #[false, false, false, false, false, false, false, false, false, false, false, false, false, false, false, false, false, false, false, false, false, false] (by kernel_rfl) rfl rfl ⟨((HB.out.cell (zS w _ hw359_0)).trans hw359_0), ((HB.out.cell (zS w _ hw361_0)).trans hw361_0), ((HB.out.cell (zS w _ hw362_0)).trans hw362_0)⟩ (fun hHeld => ?_); refine with_tabW spec_l7Names.tab4 spec_l7Names.bits4 (fun HT_ HW_ => ?_)
          generalize wr.drew = w11 at HB hx359_0 hx361_0 hx362_0 hHeld ⊢
          refine pure_ (i := 0) (N := some 10) (v := ?_) (a' := ?_) #[true, false, false, false, false, false, false, false, false, false, false, false, false, false, false, false, false, false, false, false, false, false] rfl rfl (any_of HT_.out (by kernel_rfl)) (fun _ _ _ h => h) (Or.inl ⟨by rfl, ?_⟩) ?_ ?_
          rotate_left
          ·intro w'
           go_simp
           with_reducible rfl
          rotate_left
          ·simp only [Act.put, zL, zM, zN, i64_w, i32_w]
           rfl
          refine pure_ (i := 1) (N := some 11) (v := ?_) (a' := ?_) #[true, true, false, false, false, false, false, false, false, false, false, false, false, false, false, false, false, false, false, false, false, false] rfl rfl (any_of HT_.out (by kernel_rfl)) (fun _ _ _ h => h) (Or.inl ⟨by rfl, ?_⟩) ?_ ?_
          rotate_left
          ·intro w'
           go_simp
           with_reducible rfl
          rotate_left
          ·simp only [Act.put, zL, zM, zN, i64_w, i32_w]
           rfl
          refine pure_ (i := 2) (N := some 12) (v := ?_) (a' := ?_) #[true, true, true, false, false, false, false, false, false, false, false, false, false, false, false, false, false, false, false, false, false, false] rfl rfl (any_of HT_.out (by kernel_rfl)) (fun _ _ _ h => h) (Or.inl ⟨by rfl, ?_⟩) ?_ ?_
          rotate_left
          ·intro w'
           go_simp
           with_reducible rfl
          rotate_left
          ·simp only [Act.put, zL, zM, zN, i64_w, i32_w]
           rfl
          refine take_ (i := 3) (N := some 13) (v := ?_) (a' := ?_) #[true, true, true, true, false, false, false, false, false, false, false, false, false, false, false, false, false, false, false, false, false, false] rfl rfl (take_ofW HT_.out HW_.out (by kernel_rfl)) (fun _ _ _ h => h) (Or.inl ⟨by rfl, ?_⟩) hHeld ?_ ?_
          rotate_left
          ·rintro w' ⟨s0, s1, s2⟩
           go_simp
           with_reducible rfl
          rotate_left
          ·simp only [Act.put, zL, zM, zN, i64_w, i32_w]
           rfl
          refine one_ (i := 4) (N := some 14) #[true, true, true, true, true, false, false, false, false, false, false, false, false, false, false, false, false, false, false, false, false, false] rfl rfl (one_of HT_.out (by kernel_rfl)) (by decide) (fun K hK => ?_)
          refine goes_ Tryd.func67 (by kernel_rfl) rfl #[.string (rdOf ByteArray.empty l0 x3_1)] (by rfl) rfl rfl apD ?_
          with_reducible refine (spec_NameOk.calls k1 (rdOf ByteArray.empty l0 x3_1) true _ A4.out).mono ?_
          rintro e w12 ⟨rfl, hb⟩
          refine ⟨_, rfl, ?_⟩
          replace HB := zA (zQ apA hb)
          (try clear hb)
          (try clear hb2)
          (try clear hk)
          (try clear hi)
          refine hK.out _ _ ⟨((HB.out.cell (zS w _ hw359_0)).trans hw359_0), ((HB.out.cell (zS w _ hw361_0)).trans hw361_0), ((HB.out.cell (zS w _ hw362_0)).trans hw362_0)⟩ (fun hHeld => ?_)
          clear hK K
          refine norm_ (a' := ?_) ?_ ?_
          rotate_left
          ·show Act.put _ (some 14) _ = _
           simp only [Act.put, zL, zM, zN, i64_w, i32_w]
           rfl
          refine pure_ (i := 5) (N := some 15) (v := ?_) (a' := ?_) #[true, true, true, true, true, true, false, false, false, false, false, false, false, false, false, false, false, false, false, false, false, false] rfl rfl (any_of HT_.out (by kernel_rfl)) (fun _ _ _ h => h) (Or.inl ⟨by rfl, ?_⟩) ?_ ?_
          rotate_left
          ·intro w'
           go_simp
           with_reducible rfl
          rotate_left
          ·simp only [Act.put, zL, zM, zN, i64_w, i32_w]
           rfl
          refine pure_ (i := 6) (N := some 16) (v := ?_) (a' := ?_) #[true, true, true, true, true, true, true, false, false, false, false, false, false, false, false, false, false, false, false, false, false, false] rfl rfl (any_of HT_.out (by kernel_rfl)) (fun _ _ _ h => h) (Or.inl ⟨by rfl, ?_⟩) ?_ ?_
          rotate_left
          ·intro w'
           go_simp
           with_reducible rfl
          rotate_left
          ·simp only [Act.put, zL, zM, zN, i64_w, i32_w]
           rfl
          refine pure_ (i := 7) (N := some 17) (v := ?_) (a' := ?_) #[true, true, true, true, true, true, true, true, false, false, false, false, false, false, false, false, false, false, false, false, false, false] rfl rfl (any_of HT_.out (by kernel_rfl)) (fun _ _ _ h => h) (Or.inl ⟨by rfl, ?_⟩) ?_ ?_
          rotate_left
          ·intro w'
           go_simp
           with_reducible rfl
          rotate_left
          ·simp only [Act.put, zL, zM, zN, i64_w, i32_w]
           rfl
          refine pure_ (i := 8) (N := some 18) (v := ?_) (a' := ?_) #[true, true, true, true, true, true, true, true, true, false, false, false, false, false, false, false, false, false, false, false, false, false] rfl rfl (any_of HT_.out (by kernel_rfl)) (fun _ _ _ h => h) (Or.inl ⟨by rfl, ?_⟩) ?_ ?_
          rotate_left
          ·intro w'
           go_simp
           with_reducible rfl
          rotate_left
          ·simp only [Act.put, zL, zM, zN, i64_w, i32_w]
           rfl
          refine pure_ (i := 9) (N := some 19) (v := ?_) (a' := ?_) #[true, true, true, true, true, true, true, true, true, true, false, false, false, false, false, false, false, false, false, false, false, false] rfl rfl (any_of HT_.out (by kernel_rfl)) (fun _ _ _ h => h) (Or.inl ⟨by rfl, ?_⟩) ?_ ?_
          rotate_left
          ·intro w'
           go_simp
           with_reducible rfl
          rotate_left
          ·simp only [Act.put, zL, zM, zN, i64_w, i32_w]
           rfl
          refine pure_ (i := 10) (N := some 20) (v := ?_) (a' := ?_) #[true, true, true, true, true, true, true, true, true, true, true, false, false, false, false, false, false, false, false, false, false, false] rfl rfl (any_of HT_.out (by kernel_rfl)) (fun _ _ _ h => h) (Or.inl ⟨by rfl, ?_⟩) ?_ ?_
          rotate_left
          ·intro w'
           go_simp
           with_reducible rfl
          rotate_left
          ·simp only [Act.put, zL, zM, zN, i64_w, i32_w]
           rfl
          refine pure_ (i := 11) (N := some 21) (v := ?_) (a' := ?_) #[true, true, true, true, true, true, true, true, true, true, true, true, false, false, false, false, false, false, false, false, false, false] rfl rfl (any_of HT_.out (by kernel_rfl)) (fun _ _ _ h => h) (Or.inl ⟨by rfl, ?_⟩) ?_ ?_
          rotate_left
          ·intro w'
           go_simp
           with_reducible rfl
          rotate_left
          ·simp only [Act.put, zL, zM, zN, i64_w, i32_w]
           rfl
          refine pure_ (i := 12) (N := some 22) (v := ?_) (a' := ?_) #[true, true, true, true, true, true, true, true, true, true, true, true, true, false, false, false, false, false, false, false, false, false] rfl rfl (any_of HT_.out (by kernel_rfl)) (fun _ _ _ h => h) (Or.inl ⟨by rfl, ?_⟩) ?_ ?_
          rotate_left
          ·intro w'
           go_simp
           with_reducible rfl
          rotate_left
          ·simp only [Act.put, zL, zM, zN, i64_w, i32_w]
           rfl
          refine pure_ (i := 13) (N := some 23) (v := ?_) (a' := ?_) #[true, true, true, true, true, true, true, true, true, true, true, true, true, true, false, false, false, false, false, false, false, false] rfl rfl (any_of HT_.out (by kernel_rfl)) (fun _ _ _ h => h) (Or.inl ⟨by rfl, ?_⟩) ?_ ?_
          rotate_left
          ·intro w'
           go_simp
           with_reducible rfl
          rotate_left
          ·simp only [Act.put, zL, zM, zN, i64_w, i32_w]
           rfl
          refine pure_ (i := 15) (N := some 25) (v := ?_) (a' := ?_) #[true, true, true, true, true, true, true, true, true, true, true, true, true, true, false, true, false, false, false, false, false, false] rfl rfl (any_of HT_.out (by kernel_rfl)) (fun _ _ _ h => h) (Or.inl ⟨by rfl, ?_⟩) ?_ ?_
          rotate_left
          ·intro w'
           go_simp
           with_reducible rfl
          rotate_left
          ·simp only [Act.put, zL, zM, zN, i64_w, i32_w]
           rfl
          refine pure_ (i := 16) (N := some 26) (v := ?_) (a' := ?_) #[true, true, true, true, true, true, true, true, true, true, true, true, true, true, false, true, true, false, false, false, false, false] rfl rfl (any_of HT_.out (by kernel_rfl)) (fun _ _ _ h => h) (Or.inl ⟨by rfl, ?_⟩) ?_ ?_
          rotate_left
          ·intro w'
           go_simp
           with_reducible rfl
          rotate_left
          ·simp only [Act.put, zL, zM, zN, i64_w, i32_w]
           rfl
          refine pure_ (i := 17) (N := some 27) (v := ?_) (a' := ?_) #[true, true, true, true, true, true, true, true, true, true, true, true, true, true, false, true, true, true, false, false, false, false] rfl rfl (any_of HT_.out (by kernel_rfl)) (fun _ _ _ h => h) (Or.inl ⟨by rfl, ?_⟩) ?_ ?_
          rotate_left
          ·intro w'
           go_simp
           with_reducible rfl
          rotate_left
          ·simp only [Act.put, zL, zM, zN, i64_w, i32_w]
           rfl
          refine take_ (i := 14) (N := some 24) (v := ?_) (a' := ?_) #[true, true, true, true, true, true, true, true, true, true, true, true, true, true, true, true, true, true, false, false, false, false] rfl rfl (take_ofW HT_.out HW_.out (by kernel_rfl)) (fun _ _ _ h => h) (Or.inl ⟨by rfl, ?_⟩) hHeld ?_ ?_
          rotate_left
          ·rintro w' ⟨s0, s1, s2⟩
           go_simp
           with_reducible rfl
          rotate_left
          ·simp only [Act.put, zL, zM, zN, i64_w, i32_w]
           rfl
          refine take_ (i := 18) (N := some 28) (v := ?_) (a' := ?_) #[true, true, true, true, true, true, true, true, true, true, true, true, true, true, true, true, true, true, true, false, false, false] rfl rfl (take_ofW HT_.out HW_.out (by kernel_rfl)) (fun _ _ _ h => h) (Or.inl ⟨by rfl, ?_⟩) hHeld ?_ ?_
          rotate_left
          ·rintro w' ⟨s0, s1, s2⟩
           go_simp
           with_reducible rfl
          rotate_left
          ·simp only [Act.put, zL, zM, zN, i64_w, i32_w]
           rfl
          refine pure_ (i := 19) (N := some 29) (v := ?_) (a' := ?_) #[true, true, true, true, true, true, true, true, true, true, true, true, true, true, true, true, true, true, true, true, false, false] rfl rfl (any_of HT_.out (by kernel_rfl)) (fun _ _ _ h => h) (Or.inl ⟨by rfl, ?_⟩) ?_ ?_
          rotate_left
          ·intro w'
           go_simp
           with_reducible rfl
          rotate_left
          ·simp only [Act.put, zL, zM, zN, i64_w, i32_w]
           rfl
          refine pure_ (i := 20) (N := some 30) (v := ?_) (a' := ?_) #[true, true, true, true, true, true, true, true, true, true, true, true, true, true, true, true, true, true, true, true, true, false] rfl rfl (any_of HT_.out (by kernel_rfl)) (fun _ _ _ h => h) (Or.inl ⟨by rfl, ?_⟩) ?_ ?_
          rotate_left
          ·intro w'
           go_simp
           with_reducible rfl
          rotate_left
          ·simp only [Act.put, zL, zM, zN, i64_w, i32_w]
           rfl
          refine pure_ (i := 21) (N := some 31) (v := ?_) (a' := ?_) #[true, true, true, true, true, true, true, true, true, true, true, true, true, true, true, true, true, true, true, true, true, true] rfl rfl (any_of HT_.out (by kernel_rfl)) (fun _ _ _ h => h) (Or.inl ⟨by rfl, ?_⟩) ?_ ?_
          rotate_left
          ·intro w'
           go_simp
           with_reducible rfl
          rotate_left
          ·simp only [Act.put, zL, zM, zN, i64_w, i32_w]
           rfl
          refine done_ (done_of HT_.out (by kernel_rfl)) ?_
          try go_wp2
          go_roundg k1
          case measure => have := HK1.out; omega
          case rel => exact ⟨(wrap64 (x3_1 + 1)), apB, H', ⟨by have := HK1.out; omega⟩, ⟨apA⟩⟩
         ·rw [if_neg c10] at H
          have c10b0 : (Op.bytesLess ((rdOf ByteArray.empty l0 (ji7)).toList) ((rdOf ByteArray.empty l0 x3_1).toList)) = false := by simpa using c10
          clear c10
          obtain rfl := yF H
          try go_wp2
          replace HB := zA (zF HB.out)
          have p359 : 0 ≤ (x3_1 : Int) := yE apC
          have q359 : x3_1 < (l0.length : Int) := yE apC
          obtain ⟨ad359, e359, hx359_0⟩ := Kd.at_string HR0.out x3_1 p359 q359
          have hw359_0 := hx359_0
          cases e359
          replace hx359_0 := (HB.out.cell (zS w _ hx359_0)).trans hx359_0
          replace p359 := eq_true p359
          replace q359 := eq_true q359
          have p361 : 0 ≤ ((ji7) : Int) := yE apC
          have q361 : (ji7) < (l0.length : Int) := yE apC
          obtain ⟨ad361, e361, hx361_0⟩ := Kd.at_string HR0.out (ji7) p361 q361
          have hw361_0 := hx361_0
          obtain rfl : ad359 = ad361 := (by injection e361)
          replace hx361_0 := (HB.out.cell (zS w _ hx361_0)).trans hx361_0
          replace p361 := eq_true p361
          replace q361 := eq_true q361
          have p362 : 0 ≤ (x3_1 : Int) := yE apC
          have q362 : x3_1 < (l0.length : Int) := yE apC
          obtain ⟨ad362, e362, hx362_0⟩ := Kd.at_string HR0.out x3_1 p362 q362
          have hw362_0 := hx362_0
          obtain rfl : ad359 = ad362 := (by injection e362)
          replace hx362_0 := (HB.out.cell (zS w _ hx362_0)).trans hx362_0
          replace p362 := eq_true p362
          replace q362 := eq_true q362
          refine start_ (n := 22) (S := fun w' => w'.cell? (ad359.add (x3_1).toNat) = some (.string (rdOf ByteArray.empty l0 x3_1)) ∧ w'.cell? (ad359.add ((ji7)).toNat) = some (.string (rdOf ByteArray.empty l0 (ji7))) ∧ w'.cell? (ad359.add (x3_1).toNat) = some (.string (rdOf ByteArray.empty l0 x3_1))) (ds := []) #[false, false, false, false, false, false, false, false, false, false, false, false, false, false, false, false, false, false, false, false, false, false] (by kernel_rfl) rfl rfl ⟨((HB.out.cell (zS w _ hw359_0)).trans hw359_0), ((HB.out.cell (zS w _ hw361_0)).trans hw361_0), ((HB.out.cell (zS w _ hw362_0)).trans hw362_0)⟩ (fun hHeld => ?_); refine with_tabW spec_l7Names.tab4 spec_l7Names.bits4 (fun HT_ HW_ => ?_)
          generalize wr.drew = w13 at HB hx359_0 hx361_0 hx362_0 hHeld ⊢
          refine pure_ (i := 0) (N := some 10) (v := ?_) (a' := ?_) #[true, false, false, false, false, false, false, false, false, false, false, false, false, false, false, false, false, false, false, false, false, false] rfl rfl (any_of HT_.out (by kernel_rfl)) (fun _ _ _ h => h) (Or.inl ⟨by rfl, ?_⟩) ?_ ?_
          rotate_left
          ·intro w'
           go_simp
           with_reducible rfl
          rotate_left
          ·simp only [Act.put, zL, zM, zN, i64_w, i32_w]
           rfl
          refine pure_ (i := 1) (N := some 11) (v := ?_) (a' := ?_) #[true, true, false, false, false, false, false, false, false, false, false, false, false, false, false, false, false, false, false, false, false, false] rfl rfl (any_of HT_.out (by kernel_rfl)) (fun _ _ _ h => h) (Or.inl ⟨by rfl, ?_⟩) ?_ ?_
          rotate_left
          ·intro w'
           go_simp
           with_reducible rfl
          rotate_left
          ·simp only [Act.put, zL, zM, zN, i64_w, i32_w]
           rfl
          refine pure_ (i := 2) (N := some 12) (v := ?_) (a' := ?_) #[true, true, true, false, false, false, false, false, false, false, false, false, false, false, false, false, false, false, false, false, false, false] rfl rfl (any_of HT_.out (by kernel_rfl)) (fun _ _ _ h => h) (Or.inl ⟨by rfl, ?_⟩) ?_ ?_
          rotate_left
          ·intro w'
           go_simp
           with_reducible rfl
          rotate_left
          ·simp only [Act.put, zL, zM, zN, i64_w, i32_w]
           rfl
          refine take_ (i := 3) (N := some 13) (v := ?_) (a' := ?_) #[true, true, true, true, false, false, false, false, false, false, false, false, false, false, false, false, false, false, false, false, false, false] rfl rfl (take_ofW HT_.out HW_.out (by kernel_rfl)) (fun _ _ _ h => h) (Or.inl ⟨by rfl, ?_⟩) hHeld ?_ ?_
          rotate_left
          ·rintro w' ⟨s0, s1, s2⟩
           go_simp
           with_reducible rfl
          rotate_left
          ·simp only [Act.put, zL, zM, zN, i64_w, i32_w]
           rfl
          refine one_ (i := 4) (N := some 14) #[true, true, true, true, true, false, false, false, false, false, false, false, false, false, false, false, false, false, false, false, false, false] rfl rfl (one_of HT_.out (by kernel_rfl)) (by decide) (fun K hK => ?_)
          refine goes_ Tryd.func67 (by kernel_rfl) rfl #[.string (rdOf ByteArray.empty l0 x3_1)] (by rfl) rfl rfl apD ?_
          with_reducible refine (spec_NameOk.calls k1 (rdOf ByteArray.empty l0 x3_1) true _ A4.out).mono ?_
          rintro e w14 ⟨rfl, hb⟩
          refine ⟨_, rfl, ?_⟩
          replace HB := zA (zQ apA hb)
          (try clear hb)
          (try clear hb2)
          (try clear hk)
          (try clear hi)
          refine hK.out _ _ ⟨((HB.out.cell (zS w _ hw359_0)).trans hw359_0), ((HB.out.cell (zS w _ hw361_0)).trans hw361_0), ((HB.out.cell (zS w _ hw362_0)).trans hw362_0)⟩ (fun hHeld => ?_)
          clear hK K
          refine norm_ (a' := ?_) ?_ ?_
          rotate_left
          ·show Act.put _ (some 14) _ = _
           simp only [Act.put, zL, zM, zN, i64_w, i32_w]
           rfl
          refine pure_ (i := 5) (N := some 15) (v := ?_) (a' := ?_) #[true, true, true, true, true, true, false, false, false, false, false, false, false, false, false, false, false, false, false, false, false, false] rfl rfl (any_of HT_.out (by kernel_rfl)) (fun _ _ _ h => h) (Or.inl ⟨by rfl, ?_⟩) ?_ ?_
          rotate_left
          ·intro w'
           go_simp
           with_reducible rfl
          rotate_left
          ·simp only [Act.put, zL, zM, zN, i64_w, i32_w]
           rfl
          refine pure_ (i := 6) (N := some 16) (v := ?_) (a' := ?_) #[true, true, true, true, true, true, true, false, false, false, false, false, false, false, false, false, false, false, false, false, false, false] rfl rfl (any_of HT_.out (by kernel_rfl)) (fun _ _ _ h => h) (Or.inl ⟨by rfl, ?_⟩) ?_ ?_
          rotate_left
          ·intro w'
           go_simp
           with_reducible rfl
          rotate_left
          ·simp only [Act.put, zL, zM, zN, i64_w, i32_w]
           rfl
          refine pure_ (i := 7) (N := some 17) (v := ?_) (a' := ?_) #[true, true, true, true, true, true, true, true, false, false, false, false, false, false, false, false, false, false, false, false, false, false] rfl rfl (any_of HT_.out (by kernel_rfl)) (fun _ _ _ h => h) (Or.inl ⟨by rfl, ?_⟩) ?_ ?_
          rotate_left
          ·intro w'
           go_simp
           with_reducible rfl
          rotate_left
          ·simp only [Act.put, zL, zM, zN, i64_w, i32_w]
           rfl
          refine pure_ (i := 8) (N := some 18) (v := ?_) (a' := ?_) #[true, true, true, true, true, true, true, true, true, false, false, false, false, false, false, false, false, false, false, false, false, false] rfl rfl (any_of HT_.out (by kernel_rfl)) (fun _ _ _ h => h) (Or.inl ⟨by rfl, ?_⟩) ?_ ?_
          rotate_left
          ·intro w'
           go_simp
           with_reducible rfl
          rotate_left
          ·simp only [Act.put, zL, zM, zN, i64_w, i32_w]
           rfl
          refine pure_ (i := 9) (N := some 19) (v := ?_) (a' := ?_) #[true, true, true, true, true, true, true, true, true, true, false, false, false, false, false, false, false, false, false, false, false, false] rfl rfl (any_of HT_.out (by kernel_rfl)) (fun _ _ _ h => h) (Or.inl ⟨by rfl, ?_⟩) ?_ ?_
          rotate_left
          ·intro w'
           go_simp
           with_reducible rfl
          rotate_left
          ·simp only [Act.put, zL, zM, zN, i64_w, i32_w]
           rfl
          refine pure_ (i := 10) (N := some 20) (v := ?_) (a' := ?_) #[true, true, true, true, true, true, true, true, true, true, true, false, false, false, false, false, false, false, false, false, false, false] rfl rfl (any_of HT_.out (by kernel_rfl)) (fun _ _ _ h => h) (Or.inl ⟨by rfl, ?_⟩) ?_ ?_
          rotate_left
          ·intro w'
           go_simp
           with_reducible rfl
          rotate_left
          ·simp only [Act.put, zL, zM, zN, i64_w, i32_w]
           rfl
          refine pure_ (i := 11) (N := some 21) (v := ?_) (a' := ?_) #[true, true, true, true, true, true, true, true, true, true, true, true, false, false, false, false, false, false, false, false, false, false] rfl rfl (any_of HT_.out (by kernel_rfl)) (fun _ _ _ h => h) (Or.inl ⟨by rfl, ?_⟩) ?_ ?_
          rotate_left
          ·intro w'
           go_simp
           with_reducible rfl
          rotate_left
          ·simp only [Act.put, zL, zM, zN, i64_w, i32_w]
           rfl
          refine pure_ (i := 12) (N := some 22) (v := ?_) (a' := ?_) #[true, true, true, true, true, true, true, true, true, true, true, true, true, false, false, false, false, false, false, false, false, false] rfl rfl (any_of HT_.out (by kernel_rfl)) (fun _ _ _ h => h) (Or.inl ⟨by rfl, ?_⟩) ?_ ?_
          rotate_left
          ·intro w'
           go_simp
           with_reducible rfl
          rotate_left
          ·simp only [Act.put, zL, zM, zN, i64_w, i32_w]
           rfl
          refine pure_ (i := 13) (N := some 23) (v := ?_) (a' := ?_) #[true, true, true, true, true, true, true, true, true, true, true, true, true, true, false, false, false, false, false, false, false, false] rfl rfl (any_of HT_.out (by kernel_rfl)) (fun _ _ _ h => h) (Or.inl ⟨by rfl, ?_⟩) ?_ ?_
          rotate_left
          ·intro w'
           go_simp
           with_reducible rfl
          rotate_left
          ·simp only [Act.put, zL, zM, zN, i64_w, i32_w]
           rfl
          refine pure_ (i := 15) (N := some 25) (v := ?_) (a' := ?_) #[true, true, true, true, true, true, true, true, true, true, true, true, true, true, false, true, false, false, false, false, false, false] rfl rfl (any_of HT_.out (by kernel_rfl)) (fun _ _ _ h => h) (Or.inl ⟨by rfl, ?_⟩) ?_ ?_
          rotate_left
          ·intro w'
           go_simp
           with_reducible rfl
          rotate_left
          ·simp only [Act.put, zL, zM, zN, i64_w, i32_w]
           rfl
          refine pure_ (i := 16) (N := some 26) (v := ?_) (a' := ?_) #[true, true, true, true, true, true, true, true, true, true, true, true, true, true, false, true, true, false, false, false, false, false] rfl rfl (any_of HT_.out (by kernel_rfl)) (fun _ _ _ h => h) (Or.inl ⟨by rfl, ?_⟩) ?_ ?_
          rotate_left
          ·intro w'
           go_simp
           with_reducible rfl
          rotate_left
          ·simp only [Act.put, zL, zM, zN, i64_w, i32_w]
           rfl
          refine pure_ (i := 17) (N := some 27) (v := ?_) (a' := ?_) #[true, true, true, true, true, true, true, true, true, true, true, true, true, true, false, true, true, true, false, false, false, false] rfl rfl (any_of HT_.out (by kernel_rfl)) (fun _ _ _ h => h) (Or.inl ⟨by rfl, ?_⟩) ?_ ?_
          rotate_left
          ·intro w'
           go_simp
           with_reducible rfl
          rotate_left
          ·simp only [Act.put, zL, zM, zN, i64_w, i32_w]
           rfl
          refine take_ (i := 14) (N := some 24) (v := ?_) (a' := ?_) #[true, true, true, true, true, true, true, true, true, true, true, true, true, true, true, true, true, true, false, false, false, false] rfl rfl (take_ofW HT_.out HW_.out (by kernel_rfl)) (fun _ _ _ h => h) (Or.inl ⟨by rfl, ?_⟩) hHeld ?_ ?_
          rotate_left
          ·rintro w' ⟨s0, s1, s2⟩
           go_simp
           with_reducible rfl
          rotate_left
          ·simp only [Act.put, zL, zM, zN, i64_w, i32_w]
           rfl
          refine take_ (i := 18) (N := some 28) (v := ?_) (a' := ?_) #[true, true, true, true, true, true, true, true, true, true, true, true, true, true, true, true, true, true, true, false, false, false] rfl rfl (take_ofW HT_.out HW_.out (by kernel_rfl)) (fun _ _ _ h => h) (Or.inl ⟨by rfl, ?_⟩) hHeld ?_ ?_
          rotate_left
          ·rintro w' ⟨s0, s1, s2⟩
           go_simp
           with_reducible rfl
          rotate_left
          ·simp only [Act.put, zL, zM, zN, i64_w, i32_w]
           rfl
          refine pure_ (i := 19) (N := some 29) (v := ?_) (a' := ?_) #[true, true, true, true, true, true, true, true, true, true, true, true, true, true, true, true, true, true, true, true, false, false] rfl rfl (any_of HT_.out (by kernel_rfl)) (fun _ _ _ h => h) (Or.inl ⟨by rfl, ?_⟩) ?_ ?_
          rotate_left
          ·intro w'
           go_simp
           with_reducible rfl
          rotate_left
          ·simp only [Act.put, zL, zM, zN, i64_w, i32_w]
           rfl
          refine pure_ (i := 20) (N := some 30) (v := ?_) (a' := ?_) #[true, true, true, true, true, true, true, true, true, true, true, true, true, true, true, true, true, true, true, true, true, false] rfl rfl (any_of HT_.out (by kernel_rfl)) (fun _ _ _ h => h) (Or.inl ⟨by rfl, ?_⟩) ?_ ?_
          rotate_left
          ·intro w'
           go_simp
           with_reducible rfl
          rotate_left
          ·simp only [Act.put, zL, zM, zN, i64_w, i32_w]
           rfl
          refine pure_ (i := 21) (N := some 31) (v := ?_) (a' := ?_) #[true, true, true, true, true, true, true, true, true, true, true, true, true, true, true, true, true, true, true, true, true, true] rfl rfl (any_of HT_.out (by kernel_rfl)) (fun _ _ _ h => h) (Or.inl ⟨by rfl, ?_⟩) ?_ ?_
          rotate_left
          ·intro w'
           go_simp
           with_reducible rfl
          rotate_left
          ·simp only [Act.put, zL, zM, zN, i64_w, i32_w]
           rfl
          refine done_ (done_of HT_.out (by kernel_rfl)) ?_
          try go_wp2
          go_ret
          exact ⟨by first | rfl | (simp [errW_none, errW_some] <;> rfl) | (simp only [← hji7]; first | rfl | (simp [errW_none, errW_some] <;> rfl)) | (simp [*, errW_none, errW_some] <;> rfl), apA⟩
        ·rw [if_neg c9] at H
         exact absurd H (by simp)
       ·rw [if_neg c8] at H
        exact absurd H (by simp)
      ·rw [if_neg c6] at H
       have c6b0 : decide (0 < x3_1) = false := decide_eq_false c6
       clear c6
       have H' := zA H
       clear H
       try go_wp2
       replace HB := zA (zF HB.out)
       have p359 : 0 ≤ (x3_1 : Int) := yE apC
       have q359 : x3_1 < (l0.length : Int) := yE apC
       obtain ⟨ad359, e359, hx359_0⟩ := Kd.at_string HR0.out x3_1 p359 q359
       have hw359_0 := hx359_0
       cases e359
       replace hx359_0 := (HB.out.cell (zS w _ hx359_0)).trans hx359_0
       replace p359 := eq_true p359
       replace q359 := eq_true q359
       refine start_ (n := 22) (S := fun w' => w'.cell? (ad359.add (x3_1).toNat) = some (.string (rdOf ByteArray.empty l0 x3_1))) (ds := []) #[false, false, false, false, false, false, false, false, false, false, false, false, false, false, false, false, false, false, false, false, false, false] (by kernel_rfl) rfl rfl (((HB.out.cell (zS w _ hw359_0)).trans hw359_0)) (fun hHeld => ?_); refine with_tabW spec_l7Names.tab4 spec_l7Names.bits4 (fun HT_ HW_ => ?_)
       generalize wr.drew = w15 at HB hx359_0 hHeld ⊢
       refine pure_ (i := 0) (N := some 10) (v := ?_) (a' := ?_) #[true, false, false, false, false, false, false, false, false, false, false, false, false, false, false, false, false, false, false, false, false, false] rfl rfl (any_of HT_.out (by kernel_rfl)) (fun _ _ _ h => h) (Or.inl ⟨by rfl, ?_⟩) ?_ ?_
       rotate_left
       ·intro w'
        go_simp
        with_reducible rfl
       rotate_left
       ·simp only [Act.put, zL, zM, zN, i64_w, i32_w]
        rfl
       refine pure_ (i := 1) (N := some 11) (v := ?_) (a' := ?_) #[true, true, false, false, false, false, false, false, false, false, false, false, false, false, false, false, false, false, false, false, false, false] rfl rfl (any_of HT_.out (by kernel_rfl)) (fun _ _ _ h => h) (Or.inl ⟨by rfl, ?_⟩) ?_ ?_
       rotate_left
       ·intro w'
        go_simp
        with_reducible rfl
       rotate_left
       ·simp only [Act.put, zL, zM, zN, i64_w, i32_w]
        rfl
       refine pure_ (i := 2) (N := some 12) (v := ?_) (a' := ?_) #[true, true, true, false, false, false, false, false, false, false, false, false, false, false, false, false, false, false, false, false, false, false] rfl rfl (any_of HT_.out (by kernel_rfl)) (fun _ _ _ h => h) (Or.inl ⟨by rfl, ?_⟩) ?_ ?_
       rotate_left
       ·intro w'
        go_simp
        with_reducible rfl
       rotate_left
       ·simp only [Act.put, zL, zM, zN, i64_w, i32_w]
        rfl
       refine take_ (i := 3) (N := some 13) (v := ?_) (a' := ?_) #[true, true, true, true, false, false, false, false, false, false, false, false, false, false, false, false, false, false, false, false, false, false] rfl rfl (take_ofW HT_.out HW_.out (by kernel_rfl)) (fun _ _ _ h => h) (Or.inl ⟨by rfl, ?_⟩) hHeld ?_ ?_
       rotate_left
       ·intro w' s0
        go_simp
        with_reducible rfl
       rotate_left
       ·simp only [Act.put, zL, zM, zN, i64_w, i32_w]
        rfl
       refine one_ (i := 4) (N := some 14) #[true, true, true, true, true, false, false, false, false, false, false, false, false, false, false, false, false, false, false, false, false, false] rfl rfl (one_of HT_.out (by kernel_rfl)) (by decide) (fun K hK => ?_)
       refine goes_ Tryd.func67 (by kernel_rfl) rfl #[.string (rdOf ByteArray.empty l0 x3_1)] (by rfl) rfl rfl apD ?_
       with_reducible refine (spec_NameOk.calls k1 (rdOf ByteArray.empty l0 x3_1) true _ A4.out).mono ?_
       rintro e w16 ⟨rfl, hb⟩
       refine ⟨_, rfl, ?_⟩
       replace HB := zA (zQ apA hb)
       (try clear hb)
       (try clear hb2)
       (try clear hk)
       (try clear hi)
       refine hK.out _ _ (((HB.out.cell (zS w _ hw359_0)).trans hw359_0)) (fun hHeld => ?_)
       clear hK K
       refine norm_ (a' := ?_) ?_ ?_
       rotate_left
       ·show Act.put _ (some 14) _ = _
        simp only [Act.put, zL, zM, zN, i64_w, i32_w]
        rfl
       refine pure_ (i := 5) (N := some 15) (v := ?_) (a' := ?_) #[true, true, true, true, true, true, false, false, false, false, false, false, false, false, false, false, false, false, false, false, false, false] rfl rfl (any_of HT_.out (by kernel_rfl)) (fun _ _ _ h => h) (Or.inl ⟨by rfl, ?_⟩) ?_ ?_
       rotate_left
       ·intro w'
        go_simp
        with_reducible rfl
       rotate_left
       ·simp only [Act.put, zL, zM, zN, i64_w, i32_w]
        rfl
       refine pure_ (i := 6) (N := some 16) (v := ?_) (a' := ?_) #[true, true, true, true, true, true, true, false, false, false, false, false, false, false, false, false, false, false, false, false, false, false] rfl rfl (any_of HT_.out (by kernel_rfl)) (fun _ _ _ h => h) (Or.inl ⟨by rfl, ?_⟩) ?_ ?_
       rotate_left
       ·intro w'
        go_simp
        with_reducible rfl
       rotate_left
       ·simp only [Act.put, zL, zM, zN, i64_w, i32_w]
        rfl
       refine pure_ (i := 7) (N := some 17) (v := ?_) (a' := ?_) #[true, true, true, true, true, true, true, true, false, false, false, false, false, false, false, false, false, false, false, false, false, false] rfl rfl (any_of HT_.out (by kernel_rfl)) (fun _ _ _ h => h) (Or.inl ⟨by rfl, ?_⟩) ?_ ?_
       rotate_left
       ·intro w'
        go_simp
        with_reducible rfl
       rotate_left
       ·simp only [Act.put, zL, zM, zN, i64_w, i32_w]
        rfl
       refine pure_ (i := 8) (N := some 18) (v := ?_) (a' := ?_) #[true, true, true, true, true, true, true, true, true, false, false, false, false, false, false, false, false, false, false, false, false, false] rfl rfl (any_of HT_.out (by kernel_rfl)) (fun _ _ _ h => h) (Or.inl ⟨by rfl, ?_⟩) ?_ ?_
       rotate_left
       ·intro w'
        go_simp
        with_reducible rfl
       rotate_left
       ·simp only [Act.put, zL, zM, zN, i64_w, i32_w]
        rfl
       refine pure_ (i := 9) (N := some 19) (v := ?_) (a' := ?_) #[true, true, true, true, true, true, true, true, true, true, false, false, false, false, false, false, false, false, false, false, false, false] rfl rfl (any_of HT_.out (by kernel_rfl)) (fun _ _ _ h => h) (Or.inl ⟨by rfl, ?_⟩) ?_ ?_
       rotate_left
       ·intro w'
        go_simp
        with_reducible rfl
       rotate_left
       ·simp only [Act.put, zL, zM, zN, i64_w, i32_w]
        rfl
       refine pure_ (i := 10) (N := some 20) (v := undef) (a' := ?_) #[true, true, true, true, true, true, true, true, true, true, true, false, false, false, false, false, false, false, false, false, false, false] rfl rfl (any_of HT_.out (by kernel_rfl)) (fun _ _ _ h => h) (Or.inr ⟨by rfl, rfl⟩) ?_ ?_
       rotate_left
       ·simp only [Act.put, zL, zM, zN, i64_w, i32_w]
        rfl
       refine pure_ (i := 11) (N := some 21) (v := undef) (a' := ?_) #[true, true, true, true, true, true, true, true, true, true, true, true, false, false, false, false, false, false, false, false, false, false] rfl rfl (any_of HT_.out (by kernel_rfl)) (fun _ _ _ h => h) (Or.inr ⟨by rfl, rfl⟩) ?_ ?_
       rotate_left
       ·simp only [Act.put, zL, zM, zN, i64_w, i32_w]
        rfl
       refine pure_ (i := 12) (N := some 22) (v := undef) (a' := ?_) #[true, true, true, true, true, true, true, true, true, true, true, true, true, false, false, false, false, false, false, false, false, false] rfl rfl (any_of HT_.out (by kernel_rfl)) (fun _ _ _ h => h) (Or.inr ⟨by rfl, rfl⟩) ?_ ?_
       rotate_left
       ·simp only [Act.put, zL, zM, zN, i64_w, i32_w]
        rfl
       refine pure_ (i := 13) (N := some 23) (v := undef) (a' := ?_) #[true, true, true, true, true, true, true, true, true, true, true, true, true, true, false, false, false, false, false, false, false, false] rfl rfl (any_of HT_.out (by kernel_rfl)) (fun _ _ _ h => h) (Or.inr ⟨by rfl, rfl⟩) ?_ ?_
       rotate_left
       ·simp only [Act.put, zL, zM, zN, i64_w, i32_w]
        rfl
       refine pure_ (i := 14) (N := some 24) (v := undef) (a' := ?_) #[true, true, true, true, true, true, true, true, true, true, true, true, true, true, true, false, false, false, false, false, false, false] rfl rfl (any_of HT_.out (by kernel_rfl)) (fun _ _ _ h => h) (Or.inr ⟨by rfl, rfl⟩) ?_ ?_
       rotate_left
       ·simp only [Act.put, zL, zM, zN, i64_w, i32_w]
        rfl
       refine pure_ (i := 15) (N := some 25) (v := undef) (a' := ?_) #[true, true, true, true, true, true, true, true, true, true, true, true, true, true, true, true, false, false, false, false, false, false] rfl rfl (any_of HT_.out (by kernel_rfl)) (fun _ _ _ h => h) (Or.inr ⟨by rfl, rfl⟩) ?_ ?_
       rotate_left
       ·simp only [Act.put, zL, zM, zN, i64_w, i32_w]
        rfl
       refine pure_ (i := 16) (N := some 26) (v := undef) (a' := ?_) #[true, true, true, true, true, true, true, true, true, true, true, true, true, true, true, true, true, false, false, false, false, false] rfl rfl (any_of HT_.out (by kernel_rfl)) (fun _ _ _ h => h) (Or.inr ⟨by rfl, rfl⟩) ?_ ?_
       rotate_left
       ·simp only [Act.put, zL, zM, zN, i64_w, i32_w]
        rfl
       refine pure_ (i := 17) (N := some 27) (v := undef) (a' := ?_) #[true, true, true, true, true, true, true, true, true, true, true, true, true, true, true, true, true, true, false, false, false, false] rfl rfl (any_of HT_.out (by kernel_rfl)) (fun _ _ _ h => h) (Or.inr ⟨by rfl, rfl⟩) ?_ ?_
       rotate_left
       ·simp only [Act.put, zL, zM, zN, i64_w, i32_w]
        rfl
       refine pure_ (i := 18) (N := some 28) (v := undef) (a' := ?_) #[true, true, true, true, true, true, true, true, true, true, true, true, true, true, true, true, true, true, true, false, false, false] rfl rfl (any_of HT_.out (by kernel_rfl)) (fun _ _ _ h => h) (Or.inr ⟨by rfl, rfl⟩) ?_ ?_
       rotate_left
       ·simp only [Act.put, zL, zM, zN, i64_w, i32_w]
        rfl
       refine pure_ (i := 19) (N := some 29) (v := undef) (a' := ?_) #[true, true, true, true, true, true, true, true, true, true, true, true, true, true, true, true, true, true, true, true, false, false] rfl rfl (any_of HT_.out (by kernel_rfl)) (fun _ _ _ h => h) (Or.inr ⟨by rfl, rfl⟩) ?_ ?_
       rotate_left
       ·simp only [Act.put, zL, zM, zN, i64_w, i32_w]
        rfl
       refine pure_ (i := 20) (N := some 30) (v := ?_) (a' := ?_) #[true, true, true, true, true, true, true, true, true, true, true, true, true, true, true, true, true, true, true, true, true, false] rfl rfl (any_of HT_.out (by kernel_rfl)) (fun _ _ _ h => h) (Or.inl ⟨by rfl, ?_⟩) ?_ ?_
       rotate_left
       ·intro w'
        go_simp
        with_reducible rfl
       rotate_left
       ·simp only [Act.put, zL, zM, zN, i64_w, i32_w]
        rfl
       refine pure_ (i := 21) (N := some 31) (v := ?_) (a' := ?_) #[true, true, true, true, true, true, true, true, true, true, true, true, true, true, true, true, true, true, true, true, true, true] rfl rfl (any_of HT_.out (by kernel_rfl)) (fun _ _ _ h => h) (Or.inl ⟨by rfl, ?_⟩) ?_ ?_
       rotate_left
       ·intro w'
        go_simp
        with_reducible rfl
       rotate_left
       ·simp only [Act.put, zL, zM, zN, i64_w, i32_w]
        rfl
       refine done_ (done_of HT_.out (by kernel_rfl)) ?_
       try go_wp2
       go_roundg k1
       case measure => have := HK1.out; omega
       case rel => exact ⟨(wrap64 (x3_1 + 1)), apB, H', ⟨by have := HK1.out; omega⟩, ⟨apA⟩⟩
     ·replace c5 := Bool.eq_false_iff.mpr c5
      subst c5
      have H1 := H; rw [if_neg (show ¬ (false = true) by decide)] at H1
      clear H
      have H := H1
      clear H1
      obtain rfl := yF H
      try go_wp2
      replace HB := zA (zF HB.out)
      have p359 : 0 ≤ (x3_1 : Int) := yE apC
      have q359 : x3_1 < (l0.length : Int) := yE apC
      obtain ⟨ad359, e359, hx359_0⟩ := Kd.at_string HR0.out x3_1 p359 q359
      have hw359_0 := hx359_0
      cases e359
      replace hx359_0 := (HB.out.cell (zS w _ hx359_0)).trans hx359_0
      replace p359 := eq_true p359
      replace q359 := eq_true q359
      refine start_ (n := 22) (S := fun w' => w'.cell? (ad359.add (x3_1).toNat) = some (.string (rdOf ByteArray.empty l0 x3_1))) (ds := []) #[false, false, false, false, false, false, false, false, false, false, false, false, false, false, false, false, false, false, false, false, false, false] (by kernel_rfl) rfl rfl (((HB.out.cell (zS w _ hw359_0)).trans hw359_0)) (fun hHeld => ?_); refine with_tabW spec_l7Names.tab4 spec_l7Names.bits4 (fun HT_ HW_ => ?_)
      generalize wr.drew = w17 at HB hx359_0 hHeld ⊢
      refine pure_ (i := 0) (N := some 10) (v := ?_) (a' := ?_) #[true, false, false, false, false, false, false, false, false, false, false, false, false, false, false, false, false, false, false, false, false, false] rfl rfl (any_of HT_.out (by kernel_rfl)) (fun _ _ _ h => h) (Or.inl ⟨by rfl, ?_⟩) ?_ ?_
      rotate_left
      ·intro w'
       go_simp
       with_reducible rfl
      rotate_left
      ·simp only [Act.put, zL, zM, zN, i64_w, i32_w]
       rfl
      refine pure_ (i := 1) (N := some 11) (v := ?_) (a' := ?_) #[true, true, false, false, false, false, false, false, false, false, false, false, false, false, false, false, false, false, false, false, false, false] rfl rfl (any_of HT_.out (by kernel_rfl)) (fun _ _ _ h => h) (Or.inl ⟨by rfl, ?_⟩) ?_ ?_
      rotate_left
      ·intro w'
       go_simp
       with_reducible rfl
      rotate_left
      ·simp only [Act.put, zL, zM, zN, i64_w, i32_w]
       rfl
      refine pure_ (i := 2) (N := some 12) (v := ?_) (a' := ?_) #[true, true, true, false, false, false, false, false, false, false, false, false, false, false, false, false, false, false, false, false, false, false] rfl rfl (any_of HT_.out (by kernel_rfl)) (fun _ _ _ h => h) (Or.inl ⟨by rfl, ?_⟩) ?_ ?_
      rotate_left
      ·intro w'
       go_simp
       with_reducible rfl
      rotate_left
      ·simp only [Act.put, zL, zM, zN, i64_w, i32_w]
       rfl
      refine take_ (i := 3) (N := some 13) (v := ?_) (a' := ?_) #[true, true, true, true, false, false, false, false, false, false, false, false, false, false, false, false, false, false, false, false, false, false] rfl rfl (take_ofW HT_.out HW_.out (by kernel_rfl)) (fun _ _ _ h => h) (Or.inl ⟨by rfl, ?_⟩) hHeld ?_ ?_
      rotate_left
      ·intro w' s0
       go_simp
       with_reducible rfl
      rotate_left
      ·simp only [Act.put, zL, zM, zN, i64_w, i32_w]
       rfl
      refine one_ (i := 4) (N := some 14) #[true, true, true, true, true, false, false, false, false, false, false, false, false, false, false, false, false, false, false, false, false, false] rfl rfl (one_of HT_.out (by kernel_rfl)) (by decide) (fun K hK => ?_)
      refine goes_ Tryd.func67 (by kernel_rfl) rfl #[.string (rdOf ByteArray.empty l0 x3_1)] (by rfl) rfl rfl apD ?_
      with_reducible refine (spec_NameOk.calls k1 (rdOf ByteArray.empty l0 x3_1) false _ A4.out).mono ?_
      rintro e w18 ⟨rfl, hb⟩
      refine ⟨_, rfl, ?_⟩
      replace HB := zA (zQ apA hb)
      (try clear hb)
      (try clear hb2)
      (try clear hk)
      (try clear hi)
      refine hK.out _ _ (((HB.out.cell (zS w _ hw359_0)).trans hw359_0)) (fun hHeld => ?_)
      clear hK K
      refine norm_ (a' := ?_) ?_ ?_
      rotate_left
      ·show Act.put _ (some 14) _ = _
       simp only [Act.put, zL, zM, zN, i64_w, i32_w]
       rfl
      refine pure_ (i := 5) (N := some 15) (v := ?_) (a' := ?_) #[true, true, true, true, true, true, false, false, false, false, false, false, false, false, false, false, false, false, false, false, false, false] rfl rfl (any_of HT_.out (by kernel_rfl)) (fun _ _ _ h => h) (Or.inl ⟨by rfl, ?_⟩) ?_ ?_
      rotate_left
      ·intro w'
       go_simp
       with_reducible rfl
      rotate_left
      ·simp only [Act.put, zL, zM, zN, i64_w, i32_w]
       rfl
      refine pure_ (i := 6) (N := some 16) (v := ?_) (a' := ?_) #[true, true, true, true, true, true, true, false, false, false, false, false, false, false, false, false, false, false, false, false, false, false] rfl rfl (any_of HT_.out (by kernel_rfl)) (fun _ _ _ h => h) (Or.inl ⟨by rfl, ?_⟩) ?_ ?_
      rotate_left
      ·intro w'
       go_simp
       with_reducible rfl
      rotate_left
      ·simp only [Act.put, zL, zM, zN, i64_w, i32_w]
       rfl
      refine pure_ (i := 7) (N := some 17) (v := undef) (a' := ?_) #[true, true, true, true, true, true, true, true, false, false, false, false, false, false, false, false, false, false, false, false, false, false] rfl rfl (any_of HT_.out (by kernel_rfl)) (fun _ _ _ h => h) (Or.inr ⟨by rfl, rfl⟩) ?_ ?_
      rotate_left
      ·simp only [Act.put, zL, zM, zN, i64_w, i32_w]
       rfl
      refine pure_ (i := 8) (N := some 18) (v := undef) (a' := ?_) #[true, true, true, true, true, true, true, true, true, false, false, false, false, false, false, false, false, false, false, false, false, false] rfl rfl (any_of HT_.out (by kernel_rfl)) (fun _ _ _ h => h) (Or.inr ⟨by rfl, rfl⟩) ?_ ?_
      rotate_left
      ·simp only [Act.put, zL, zM, zN, i64_w, i32_w]
       rfl
      refine pure_ (i := 9) (N := some 19) (v := undef) (a' := ?_) #[true, true, true, true, true, true, true, true, true, true, false, false, false, false, false, false, false, false, false, false, false, false] rfl rfl (any_of HT_.out (by kernel_rfl)) (fun _ _ _ h => h) (Or.inr ⟨by rfl, rfl⟩) ?_ ?_
      rotate_left
      ·simp only [Act.put, zL, zM, zN, i64_w, i32_w]
       rfl
      refine pure_ (i := 10) (N := some 20) (v := undef) (a' := ?_) #[true, true, true, true, true, true, true, true, true, true, true, false, false, false, false, false, false, false, false, false, false, false] rfl rfl (any_of HT_.out (by kernel_rfl)) (fun _ _ _ h => h) (Or.inr ⟨by rfl, rfl⟩) ?_ ?_
      rotate_left
      ·simp only [Act.put, zL, zM, zN, i64_w, i32_w]
       rfl
      refine pure_ (i := 11) (N := some 21) (v := undef) (a' := ?_) #[true, true, true, true, true, true, true, true, true, true, true, true, false, false, false, false, false, false, false, false, false, false] rfl rfl (any_of HT_.out (by kernel_rfl)) (fun _ _ _ h => h) (Or.inr ⟨by rfl, rfl⟩) ?_ ?_
      rotate_left
      ·simp only [Act.put, zL, zM, zN, i64_w, i32_w]
       rfl
      refine pure_ (i := 12) (N := some 22) (v := undef) (a' := ?_) #[true, true, true, true, true, true, true, true, true, true, true, true, true, false, false, false, false, false, false, false, false, false] rfl rfl (any_of HT_.out (by kernel_rfl)) (fun _ _ _ h => h) (Or.inr ⟨by rfl, rfl⟩) ?_ ?_
      rotate_left
      ·simp only [Act.put, zL, zM, zN, i64_w, i32_w]
       rfl
      refine pure_ (i := 13) (N := some 23) (v := undef) (a' := ?_) #[true, true, true, true, true, true, true, true, true, true, true, true, true, true, false, false, false, false, false, false, false, false] rfl rfl (any_of HT_.out (by kernel_rfl)) (fun _ _ _ h => h) (Or.inr ⟨by rfl, rfl⟩) ?_ ?_
      rotate_left
      ·simp only [Act.put, zL, zM, zN, i64_w, i32_w]
       rfl
      refine pure_ (i := 14) (N := some 24) (v := undef) (a' := ?_) #[true, true, true, true, true, true, true, true, true, true, true, true, true, true, true, false, false, false, false, false, false, false] rfl rfl (any_of HT_.out (by kernel_rfl)) (fun _ _ _ h => h) (Or.inr ⟨by rfl, rfl⟩) ?_ ?_
      rotate_left
      ·simp only [Act.put, zL, zM, zN, i64_w, i32_w]
       rfl
      refine pure_ (i := 15) (N := some 25) (v := undef) (a' := ?_) #[true, true, true, true, true, true, true, true, true, true, true, true, true, true, true, true, false, false, false, false, false, false] rfl rfl (any_of HT_.out (by kernel_rfl)) (fun _ _ _ h => h) (Or.inr ⟨by rfl, rfl⟩) ?_ ?_
      rotate_left
      ·simp only [Act.put, zL, zM, zN, i64_w, i32_w]
       rfl
      refine pure_ (i := 16) (N := some 26) (v := undef) (a' := ?_) #[true, true, true, true, true, true, true, true, true, true, true, true, true, true, true, true, true, false, false, false, false, false] rfl rfl (any_of HT_.out (by kernel_rfl)) (fun _ _ _ h => h) (Or.inr ⟨by rfl, rfl⟩) ?_ ?_
      rotate_left
      ·simp only [Act.put, zL, zM, zN, i64_w, i32_w]
       rfl
      refine pure_ (i := 17) (N := some 27) (v := undef) (a' := ?_) #[true, true, true, true, true, true, true, true, true, true, true, true, true, true, true, true, true, true, false, false, false, false] rfl rfl (any_of HT_.out (by kernel_rfl)) (fun _ _ _ h => h) (Or.inr ⟨by rfl, rfl⟩) ?_ ?_
      rotate_left
      ·simp only [Act.put, zL, zM, zN, i64_w, i32_w]
       rfl
      refine pure_ (i := 18) (N := some 28) (v := undef) (a' := ?_) #[true, true, true, true, true, true, true, true, true, true, true, true, true, true, true, true, true, true, true, false, false, false] rfl rfl (any_of HT_.out (by kernel_rfl)) (fun _ _ _ h => h) (Or.inr ⟨by rfl, rfl⟩) ?_ ?_
      rotate_left
      ·simp only [Act.put, zL, zM, zN, i64_w, i32_w]
       rfl
      refine pure_ (i := 19) (N := some 29) (v := undef) (a' := ?_) #[true, true, true, true, true, true, true, true, true, true, true, true, true, true, true, true, true, true, true, true, false, false] rfl rfl (any_of HT_.out (by kernel_rfl)) (fun _ _ _ h => h) (Or.inr ⟨by rfl, rfl⟩) ?_ ?_
      rotate_left
      ·simp only [Act.put, zL, zM, zN, i64_w, i32_w]
       rfl
      refine pure_ (i := 20) (N := some 30) (v := undef) (a' := ?_) #[true, true, true, true, true, true, true, true, true, true, true, true, true, true, true, true, true, true, true, true, true, false] rfl rfl (any_of HT_.out (by kernel_rfl)) (fun _ _ _ h => h) (Or.inr ⟨by rfl, rfl⟩) ?_ ?_
      rotate_left
      ·simp only [Act.put, zL, zM, zN, i64_w, i32_w]
       rfl
      refine pure_ (i := 21) (N := some 31) (v := ?_) (a' := ?_) #[true, true, true, true, true, true, true, true, true, true, true, true, true, true, true, true, true, true, true, true, true, true] rfl rfl (any_of HT_.out (by kernel_rfl)) (fun _ _ _ h => h) (Or.inl ⟨by rfl, ?_⟩) ?_ ?_
      rotate_left
      ·intro w'
       go_simp
       with_reducible rfl
      rotate_left
      ·simp only [Act.put, zL, zM, zN, i64_w, i32_w]
       rfl
      refine done_ (done_of HT_.out (by kernel_rfl)) ?_
      try go_wp2
      go_ret
      exact ⟨apE, apA⟩
    ·rw [if_neg c3] at H
     exact absurd H (by simp)
   ·rw [if_neg c2] at H
    have c2b0 : decide (x3_1 < (l0.length : Int)) = false := decide_eq_false c2
    clear c2
    obtain rfl := yF H
    go_wp2
    go_ret
    exact ⟨apE, apA⟩


theorem eqA30 (d : Nat) (w : World) (x0 y0 : Int) (x1 y1 : Int) :
  (Op.equalIn (d + 2) 30 (.agg #[.int .i64 x0, .int .i64 x1]) (.agg #[.int .i64 y0, .int .i64 y1])).run Tryd.prog w = .ok (x0 == y0 && (x1 == y1)) w := by
 refine eqA_of Tryd.underlying30 (by kernel_rfl) ?_
 refine eqf_cons (by rfl) (by go_simp; rfl) (by go_simp; rfl) (by go_simp) ?_
 exact eqf_last (by rfl) (by go_simp; rfl) (by go_simp; rfl) (by go_simp)
end Go.Proofs.YtoajejdicfabmaaDoor.Q

namespace Go.Proofs.YtoajejdicfabmaaDoor.Q
open Go.RowKit Go.Proofs.YtoajejdicfabmaaDoorW.PrintWords Go.Proofs.YtoajejdicfabmaaDoorW.PrintLast Go.Proofs.YtoajejdicfabmaaDoorW.PrintMore Go.Proofs.YtoajejdicfabmaaDoorX
attribute [local go_sem] max2_int min2_int max_two min_two max_three min_three max_four min_four   -- for this text's walks alone
set_option linter.unusedVariables false
set_option linter.unusedSimpArgs false

attribute [local go_sem high] eqA30
def spec_l7One.j0 : Nat → Int → Bool → Int → Int → Int → ByteArray → List (S33) → List ByteArray → Option (Bool)
 | 0, _, _, _, _, _, _, _, _ => none
 | k + 1, x4, x5, x364000, x364001, x364002, x364003, x364004, x364005 => if x5 = true then (if (x364001 == 0 && (x364002 == 0)) = true then (if x364003.toList = ([] : List UInt8) then (if (x364004.length : Int) = 0 then (some ((x364005.length : Int) == 0)) else (some false)) else (some false)) else (some false)) else (if x4 = 3 then ((spec_DecOk.f x364001 x364002).bind fun t364 => (if t364 = true then (if x364003.toList = ([] : List UInt8) then (if (x364004.length : Int) = 0 then (some ((x364005.length : Int) == 0)) else (some false)) else (some false)) else (some false))) else (if x4 = 4 then (if (x364001 == 0 && (x364002 == 0)) = true then (if (x364003.size : Int) ≤ 1500 then (if (x364004.length : Int) = 0 then (some ((x364005.length : Int) == 0)) else (some false)) else (some false)) else (some false)) else (if x4 = 5 then (if (x364001 == 0 && (x364002 == 0)) = true then (if x364003.toList = ([] : List UInt8) then (some ((x364005.length : Int) == 0)) else (some false)) else (some false)) else (if x4 = 6 then (if (x364001 == 0 && (x364002 == 0)) = true then (if x364003.toList = ([] : List UInt8) then (if (x364005.length : Int) = (x364004.length : Int) then ((spec_l7Names.f k x364005).bind fun t365 => (some t365)) else (some false)) else (some false)) else (some false)) else (some false)))))
def spec_l7One.f (k : Nat) (a0_0 : Int) (a0_1 : Int) (a0_2 : Int) (a0_3 : ByteArray) (l0_4 : List (S33)) (l0_5 : List ByteArray) : Option (Bool) := if a0_0 = 0 then (spec_l7One.j0 k a0_0 (a0_0 == 0) a0_0 a0_1 a0_2 a0_3 l0_4 l0_5) else (if a0_0 = 1 then (spec_l7One.j0 k a0_0 (a0_0 == 1) a0_0 a0_1 a0_2 a0_3 l0_4 l0_5) else (spec_l7One.j0 k a0_0 (a0_0 == 2) a0_0 a0_1 a0_2 a0_3 l0_4 l0_5))
theorem spec_l7One.mono_l : ∀ k, (∀ y0 y1 y2 y3 y4 y5 y6 y7, LeO (spec_l7One.j0 k y0 y1 y2 y3 y4 y5 y6 y7) (spec_l7One.j0 (k + 1) y0 y1 y2 y3 y4 y5 y6 y7))
 | 0 => fun _ _ _ _ _ _ _ _ r h => by simp [spec_l7One.j0] at h
 | k + 1 => by
  have ih0 := spec_l7One.mono_l k
  ·intro y0 y1 y2 y3 y4 y5 y6 y7
   unfold spec_l7One.j0
   repeat' first
   | (with_reducible exact ih0 _ _ _ _ _ _ _ _)
   | (with_reducible exact spec_l7Names.mono _ _)
   | (with_reducible exact LeO.refl _)
   | (with_reducible exact LeO.none _)
   | (with_reducible refine LeO.ite ?_ ?_)
   | (with_reducible refine LeO.bind ?_ (fun _ => ?_))
   | exact ih0 _ _ _ _ _ _ _ _
theorem spec_l7One.mono : ∀ a0 a1 a2 a3 a4 a5 k, LeO (spec_l7One.f k a0 a1 a2 a3 a4 a5) (spec_l7One.f (k + 1) a0 a1 a2 a3 a4 a5) := by
 intro a0 a1 a2 a3 a4 a5 k
 have ih0 := spec_l7One.mono_l k
 unfold spec_l7One.f
 repeat' first
   | (with_reducible exact ih0 _ _ _ _ _ _ _ _)
   | (with_reducible exact spec_l7Names.mono _ _)
   | (with_reducible exact LeO.refl _)
   | (with_reducible exact LeO.none _)
   | (with_reducible refine LeO.ite ?_ ?_)
   | (with_reducible refine LeO.bind ?_ (fun _ => ?_))
   | exact ih0 _ _ _ _ _ _ _ _
set_option maxHeartbeats 8000000 in
set_option maxRecDepth 100000 in
theorem spec_l7One.calls (k : Nat) (a0_0 : Int) (a0_1 : Int) (a0_2 : Int) (a0_3 : ByteArray) (A0_4 : Option Addr) (c0_4 : Nat) (l0_4 : List (S33)) (A0_5 : Option Addr) (c0_5 : Nat) (l0_5 : List ByteArray) (r : Bool) (w : World) (hr0_4 : Kd.C k33 w A0_4 l0_4.length l0_4) (hc0_4 : l0_4.length ≤ c0_4) (hr0_5 : Kd.C Kd.string w A0_5 l0_5.length l0_5) (hc0_5 : l0_5.length ≤ c0_5) (h : spec_l7One.f k a0_0 a0_1 a0_2 a0_3 l0_4 l0_5 = some r) :
  Calls Tryd.prog 34 #[.agg #[.int .i64 a0_0, .int .i64 a0_1, .int .i64 a0_2, .string a0_3, .slice A0_4 l0_4.length c0_4, .slice A0_5 l0_5.length c0_5]] w fun e w' => e = .returned (.bool r) ∧ Below w.heap.size w w' := by
 have hu33 := Tryd.underlying33
 have hu30 := Tryd.underlying30
 have HR0_4 := zA hr0_4
 have HC0_4 := zA hc0_4
 clear hr0_4 hc0_4
 have HR0_5 := zA hr0_5
 have HC0_5 := zA hc0_5
 clear hr0_5 hc0_5
 have HB := zA (yG w.heap.size w)
 have H : (if a0_0 = 0 then (spec_l7One.j0 k a0_0 (a0_0 == 0) a0_0 a0_1 a0_2 a0_3 l0_4 l0_5) else (if a0_0 = 1 then (spec_l7One.j0 k a0_0 (a0_0 == 1) a0_0 a0_1 a0_2 a0_3 l0_4 l0_5) else (spec_l7One.j0 k a0_0 (a0_0 == 2) a0_0 a0_1 a0_2 a0_3 l0_4 l0_5))) = some r := h
 clear h
 have HC2 := zA H
 clear H
 go_enter Tryd.func34, Tryd.ntmps34
 go_upto_if 5 with (first | ((with_reducible refine zT (N := 1) rfl ?_); (try (refine gate_guard (by rfl) ?_; dsimp only)); refine zW ?hg (N := 1) ?hd (cs := #[.int .i64 a0_0, .int .i64 a0_1, .int .i64 a0_2, .string a0_3, .slice A0_4 l0_4.length c0_4, .slice A0_5 l0_5.length c0_5]) (t := 33) ?hr ?_; (case hd => rfl); (case hg => rfl); (case hr => first | (go_simp; done) | (go_simp; rfl)); intro gb363 hg w3 hbox hb; have BK363 := zA (hbox); have GW363 := zA ((by rw [hg]; exact (zR apA) : w.heap.size ≤ gb363)); have GE363 := zA ((by rw [hg]; exact (zR apA) : w.heap.size ≤ gb363)); replace HB := zA (zQ apA hb); clear hb hbox hg; obtain ⟨hcz4_0, hcz4_1, hcz4_2, hcz4_3, hcz4_4, hcz4_5, hfz4_0, hfz4_1, hfz4_2, hfz4_3, hfz4_4, hfz4_5⟩ := zb6 BK363.out))
 (try simp only [Act.put, zL, zM, zN])
 go_cut [5] (fun v5 wc => ∃ (kq : Nat) (x5_1 : Bool), v5 = .bool x5_1 ∧ Aside0 (spec_l7One.j0 kq a0_0 x5_1 a0_0 a0_1 a0_2 a0_3 l0_4 l0_5 = some r) ∧ Aside0 (kq ≤ k) ∧ Aside0 (wc.heap[gb363]? = some (.cells #[.int .i64 a0_0, .int .i64 a0_1, .int .i64 a0_2, .string a0_3, (.slice A0_4 l0_4.length c0_4), (.slice A0_5 l0_5.length c0_5)] 33 (0, 0))) ∧ Aside0 (Below w.heap.size w wc))
 case first =>
  have H := HC2.out
  clear HC2
  by_cases c5 : a0_0 = 0
  ·rw [if_pos c5] at H
   have c5b0 : (a0_0 == 0) = true := beq_iff_eq.mpr c5
   have c5b1 : (a0_0 != 0) = false := bne_eq_false_iff_eq.mpr c5
   clear c5
   (first | rw [c5b0] | (simp only [i64_w, i32_w]; rw [c5b0]) | skip)
   have H' := zA H
   clear H
   go_wp2
   go_meet
   case rel => exact ⟨_, ((a0_0 == 0)), apB, H', ⟨by first | omega | exact yH _⟩, ⟨by (with_reducible repeat (first | refine zB ?_ _ | refine zD ?_ | refine zC ?_ _)); exact BK363.out⟩, ⟨apX⟩⟩
  ·rw [if_neg c5] at H
   have c5b0 : (a0_0 == 0) = false := beq_eq_false_iff_ne.mpr c5
   have c5b1 : (a0_0 != 0) = true := bne_iff_ne.mpr c5
   (first | rw [c5b0] | (simp only [i64_w, i32_w]; rw [c5b0]) | skip)
   by_cases c6 : a0_0 = 1
   ·rw [if_pos c6] at H
    have c6b0 : (a0_0 == 1) = true := beq_iff_eq.mpr c6
    have c6b1 : (a0_0 != 1) = false := bne_eq_false_iff_eq.mpr c6
    clear c6
    have H' := zA H
    clear H
    go_wp2
    go_meet
    case rel => exact ⟨_, ((a0_0 == 1)), apB, H', ⟨by first | omega | exact yH _⟩, ⟨by (with_reducible repeat (first | refine zB ?_ _ | refine zD ?_ | refine zC ?_ _)); exact BK363.out⟩, ⟨apX⟩⟩
   ·rw [if_neg c6] at H
    have c6b0 : (a0_0 == 1) = false := beq_eq_false_iff_ne.mpr c6
    have c6b1 : (a0_0 != 1) = true := bne_iff_ne.mpr c6
    have H' := zA H
    clear H
    go_wp2
    go_meet
    case rel => exact ⟨_, ((a0_0 == 2)), apB, H', ⟨by first | omega | exact yH _⟩, ⟨by (with_reducible repeat (first | refine zB ?_ _ | refine zD ?_ | refine zC ?_ _)); exact BK363.out⟩, ⟨apX⟩⟩
 case rest =>
  clear HC2
  try clear p2 c3 c5 c5b0 c5b1 c6 c6b0 c6b1 hcz4_0 hcz4_1 hcz4_2 hcz4_3 hcz4_4 hcz4_5 hfz4_0 hfz4_1 hfz4_2 hfz4_3 hfz4_4 hfz4_5
  obtain ⟨kq, x5_1, rfl, HA, HJ1, BK363, HB⟩ := hcut
  cases kq with
  | zero => exact absurd HA.out (by simp [spec_l7One.j0])
  | succ kj1 =>
   have H := HA.out
   clear HA
   simp only [spec_l7One.j0] at H
   by_cases c7 : x5_1 = true
   ·subst c7
    have H1 := H; rw [if_pos rfl] at H1
    clear H
    have H := H1
    clear H1
    by_cases c8 : (a0_1 == 0 && (a0_2 == 0)) = true
    ·rw [if_pos c8] at H
     have c8b0 : (a0_1 == 0 && (a0_2 == 0)) = true := c8
     (try (have c8b1 : decide (a0_1 = 0 && (a0_2 == 0)) = true := by simpa using c8))
     (try (have c8b2 : (a0_1 == 0 && (a0_2 == 0)) = true := by simpa using c8))
     clear c8
     by_cases c9 : a0_3.toList = ([] : List UInt8)
     ·rw [if_pos c9] at H
      have c9b0 : (a0_3.toList == ([] : List UInt8)) = true := beq_iff_eq.mpr c9
      have c9b1 : (a0_3.toList != ([] : List UInt8)) = false := bne_eq_false_iff_eq.mpr c9
      clear c9
      by_cases c10 : (l0_4.length : Int) = 0
      ·rw [if_pos c10] at H
       have c10b0 : ((l0_4.length : Int) == 0) = true := beq_iff_eq.mpr c10
       have c10b1 : ((l0_4.length : Int) != 0) = false := bne_eq_false_iff_eq.mpr c10
       clear c10
       obtain rfl := yF H
       obtain ⟨hcz11_0, hcz11_1, hcz11_2, hcz11_3, hcz11_4, hcz11_5, hfz11_0, hfz11_1, hfz11_2, hfz11_3, hfz11_4, hfz11_5⟩ := zb6 BK363.out
       go_wp2
       go_ret
       exact ⟨apE, apX⟩
      ·rw [if_neg c10] at H
       have c10b0 : ((l0_4.length : Int) == 0) = false := beq_eq_false_iff_ne.mpr c10
       have c10b1 : ((l0_4.length : Int) != 0) = true := bne_iff_ne.mpr c10
       have c10b2 : ¬ (l0_4 = []) := fun h_ => c10 (by rw [h_]; rfl)
       obtain rfl := yF H
       obtain ⟨hcz12_0, hcz12_1, hcz12_2, hcz12_3, hcz12_4, hcz12_5, hfz12_0, hfz12_1, hfz12_2, hfz12_3, hfz12_4, hfz12_5⟩ := zb6 BK363.out
       go_wp2
       go_ret
       exact ⟨apE, apX⟩
     ·rw [if_neg c9] at H
      have c9b0 : (a0_3.toList == ([] : List UInt8)) = false := beq_eq_false_iff_ne.mpr c9
      have c9b1 : (a0_3.toList != ([] : List UInt8)) = true := bne_iff_ne.mpr c9
      obtain rfl := yF H
      obtain ⟨hcz13_0, hcz13_1, hcz13_2, hcz13_3, hcz13_4, hcz13_5, hfz13_0, hfz13_1, hfz13_2, hfz13_3, hfz13_4, hfz13_5⟩ := zb6 BK363.out
      go_wp2
      go_ret
      exact ⟨apE, apX⟩
    ·rw [if_neg c8] at H
     have c8b0 : (a0_1 == 0 && (a0_2 == 0)) = false := by simpa using c8
     (try (have c8b1 : decide (a0_1 = 0 && (a0_2 == 0)) = false := by simpa using c8))
     (try (have c8b2 : (a0_1 == 0 && (a0_2 == 0)) = false := by simpa using c8))
     (try (have c8b3 : ¬ (a0_1 = 0 && (a0_2 == 0)) := by simpa using c8))
     clear c8
     obtain rfl := yF H
     obtain ⟨hcz14_0, hcz14_1, hcz14_2, hcz14_3, hcz14_4, hcz14_5, hfz14_0, hfz14_1, hfz14_2, hfz14_3, hfz14_4, hfz14_5⟩ := zb6 BK363.out
     go_wp2
     go_ret
     exact ⟨apE, apX⟩
   ·replace c7 := Bool.eq_false_iff.mpr c7
    subst c7
    have H1 := H; rw [if_neg (show ¬ (false = true) by decide)] at H1
    clear H
    have H := H1
    clear H1
    by_cases c15 : a0_0 = 3
    ·rw [if_pos c15] at H
     have c15b0 : (a0_0 == 3) = true := beq_iff_eq.mpr c15
     have c15b1 : (a0_0 != 3) = false := bne_eq_false_iff_eq.mpr c15
     clear c15
     replace H := Option.bind_eq_some_iff.mp H
     obtain ⟨t364, A160, H⟩ := H
     have A16 := zA A160
     clear A160
     by_cases c17 : t364 = true
     ·subst c17
      have H1 := H; rw [if_pos rfl] at H1
      clear H
      have H := H1
      clear H1
      by_cases c18 : a0_3.toList = ([] : List UInt8)
      ·rw [if_pos c18] at H
       have c18b0 : (a0_3.toList == ([] : List UInt8)) = true := beq_iff_eq.mpr c18
       have c18b1 : (a0_3.toList != ([] : List UInt8)) = false := bne_eq_false_iff_eq.mpr c18
       clear c18
       by_cases c19 : (l0_4.length : Int) = 0
       ·rw [if_pos c19] at H
        have c19b0 : ((l0_4.length : Int) == 0) = true := beq_iff_eq.mpr c19
        have c19b1 : ((l0_4.length : Int) != 0) = false := bne_eq_false_iff_eq.mpr c19
        clear c19
        obtain rfl := yF H
        obtain ⟨hcz20_0, hcz20_1, hcz20_2, hcz20_3, hcz20_4, hcz20_5, hfz20_0, hfz20_1, hfz20_2, hfz20_3, hfz20_4, hfz20_5⟩ := zb6 BK363.out
        go_wp2_with (first | ((with_reducible refine zV (f := 49) rfl ?_); refine goesL_ (some 34) rfl rfl Tryd.func49 (by kernel_rfl) rfl #[.agg #[.int .i64 a0_1, .int .i64 a0_2]] rfl apD ?_; (with_reducible refine (spec_DecOk.calls a0_1 a0_2 true _ A16.out).mono ?_); rintro e w21 ⟨rfl, hb⟩; refine ⟨_, rfl, ?_⟩; replace BK363 := zA (zP (g := gb363) (o := .cells #[.int .i64 a0_0, .int .i64 a0_1, .int .i64 a0_2, .string a0_3, .slice A0_4 l0_4.length c0_4, .slice A0_5 l0_5.length c0_5] 33 (0, 0)) (by (with_reducible repeat (first | refine zB ?_ _ | refine zD ?_ | refine zC ?_ _)); exact BK363.out) hb); replace HB := zA (zQ apX hb); (try clear hb); (try clear hb2); (try clear hk); (try clear hi); obtain ⟨hcz22_0, hcz22_1, hcz22_2, hcz22_3, hcz22_4, hcz22_5, hfz22_0, hfz22_1, hfz22_2, hfz22_3, hfz22_4, hfz22_5⟩ := zb6 BK363.out))
        go_ret
        exact ⟨apE, apX⟩
       ·rw [if_neg c19] at H
        have c19b0 : ((l0_4.length : Int) == 0) = false := beq_eq_false_iff_ne.mpr c19
        have c19b1 : ((l0_4.length : Int) != 0) = true := bne_iff_ne.mpr c19
        have c19b2 : ¬ (l0_4 = []) := fun h_ => c19 (by rw [h_]; rfl)
        obtain rfl := yF H
        obtain ⟨hcz23_0, hcz23_1, hcz23_2, hcz23_3, hcz23_4, hcz23_5, hfz23_0, hfz23_1, hfz23_2, hfz23_3, hfz23_4, hfz23_5⟩ := zb6 BK363.out
        go_wp2_with (first | ((with_reducible refine zV (f := 49) rfl ?_); refine goesL_ (some 34) rfl rfl Tryd.func49 (by kernel_rfl) rfl #[.agg #[.int .i64 a0_1, .int .i64 a0_2]] rfl apD ?_; (with_reducible refine (spec_DecOk.calls a0_1 a0_2 true _ A16.out).mono ?_); rintro e w24 ⟨rfl, hb⟩; refine ⟨_, rfl, ?_⟩; replace BK363 := zA (zP (g := gb363) (o := .cells #[.int .i64 a0_0, .int .i64 a0_1, .int .i64 a0_2, .string a0_3, .slice A0_4 l0_4.length c0_4, .slice A0_5 l0_5.length c0_5] 33 (0, 0)) (by (with_reducible repeat (first | refine zB ?_ _ | refine zD ?_ | refine zC ?_ _)); exact BK363.out) hb); replace HB := zA (zQ apX hb); (try clear hb); (try clear hb2); (try clear hk); (try clear hi); obtain ⟨hcz25_0, hcz25_1, hcz25_2, hcz25_3, hcz25_4, hcz25_5, hfz25_0, hfz25_1, hfz25_2, hfz25_3, hfz25_4, hfz25_5⟩ := zb6 BK363.out))
        go_ret
        exact ⟨apE, apX⟩
      ·rw [if_neg c18] at H
       have c18b0 : (a0_3.toList == ([] : List UInt8)) = false := beq_eq_false_iff_ne.mpr c18
       have c18b1 : (a0_3.toList != ([] : List UInt8)) = true := bne_iff_ne.mpr c18
       obtain rfl := yF H
       obtain ⟨hcz26_0, hcz26_1, hcz26_2, hcz26_3, hcz26_4, hcz26_5, hfz26_0, hfz26_1, hfz26_2, hfz26_3, hfz26_4, hfz26_5⟩ := zb6 BK363.out
       go_wp2_with (first | ((with_reducible refine zV (f := 49) rfl ?_); refine goesL_ (some 34) rfl rfl Tryd.func49 (by kernel_rfl) rfl #[.agg #[.int .i64 a0_1, .int .i64 a0_2]] rfl apD ?_; (with_reducible refine (spec_DecOk.calls a0_1 a0_2 true _ A16.out).mono ?_); rintro e w27 ⟨rfl, hb⟩; refine ⟨_, rfl, ?_⟩; replace BK363 := zA (zP (g := gb363) (o := .cells #[.int .i64 a0_0, .int .i64 a0_1, .int .i64 a0_2, .string a0_3, .slice A0_4 l0_4.length c0_4, .slice A0_5 l0_5.length c0_5] 33 (0, 0)) (by (with_reducible repeat (first | refine zB ?_ _ | refine zD ?_ | refine zC ?_ _)); exact BK363.out) hb); replace HB := zA (zQ apX hb); (try clear hb); (try clear hb2); (try clear hk); (try clear hi); obtain ⟨hcz28_0, hcz28_1, hcz28_2, hcz28_3, hcz28_4, hcz28_5, hfz28_0, hfz28_1, hfz28_2, hfz28_3, hfz28_4, hfz28_5⟩ := zb6 BK363.out))
       go_ret
       exact ⟨apE, apX⟩
     ·replace c17 := Bool.eq_false_iff.mpr c17
      subst c17
      have H1 := H; rw [if_neg (show ¬ (false = true) by decide)] at H1
      clear H
      have H := H1
      clear H1
      obtain rfl := yF H
      obtain ⟨hcz29_0, hcz29_1, hcz29_2, hcz29_3, hcz29_4, hcz29_5, hfz29_0, hfz29_1, hfz29_2, hfz29_3, hfz29_4, hfz29_5⟩ := zb6 BK363.out
      go_wp2_with (first | ((with_reducible refine zV (f := 49) rfl ?_); refine goesL_ (some 34) rfl rfl Tryd.func49 (by kernel_rfl) rfl #[.agg #[.int .i64 a0_1, .int .i64 a0_2]] rfl apD ?_; (with_reducible refine (spec_DecOk.calls a0_1 a0_2 false _ A16.out).mono ?_); rintro e w30 ⟨rfl, hb⟩; refine ⟨_, rfl, ?_⟩; replace HB := zA (zQ apA hb); (try clear hb); (try clear hb2); (try clear hk); (try clear hi)))
      go_ret
      exact ⟨apE, apA⟩
    ·rw [if_neg c15] at H
     have c15b0 : (a0_0 == 3) = false := beq_eq_false_iff_ne.mpr c15
     have c15b1 : (a0_0 != 3) = true := bne_iff_ne.mpr c15
     by_cases c31 : a0_0 = 4
     ·rw [if_pos c31] at H
      have c31b0 : (a0_0 == 4) = true := beq_iff_eq.mpr c31
      have c31b1 : (a0_0 != 4) = false := bne_eq_false_iff_eq.mpr c31
      clear c31
      by_cases c32 : (a0_1 == 0 && (a0_2 == 0)) = true
      ·rw [if_pos c32] at H
       have c32b0 : (a0_1 == 0 && (a0_2 == 0)) = true := c32
       (try (have c32b1 : decide (a0_1 = 0 && (a0_2 == 0)) = true := by simpa using c32))
       (try (have c32b2 : (a0_1 == 0 && (a0_2 == 0)) = true := by simpa using c32))
       clear c32
       by_cases c33 : (a0_3.size : Int) ≤ 1500
       ·rw [if_pos c33] at H
        have c33b0 : decide ((a0_3.size : Int) ≤ 1500) = true := yD c33
        have c33b1 : decide (a0_3.size ≤ 1500) = true := yD (by omega)
        clear c33
        by_cases c34 : (l0_4.length : Int) = 0
        ·rw [if_pos c34] at H
         have c34b0 : ((l0_4.length : Int) == 0) = true := beq_iff_eq.mpr c34
         have c34b1 : ((l0_4.length : Int) != 0) = false := bne_eq_false_iff_eq.mpr c34
         clear c34
         obtain rfl := yF H
         obtain ⟨hcz35_0, hcz35_1, hcz35_2, hcz35_3, hcz35_4, hcz35_5, hfz35_0, hfz35_1, hfz35_2, hfz35_3, hfz35_4, hfz35_5⟩ := zb6 BK363.out
         go_wp2
         go_ret
         exact ⟨apE, apX⟩
        ·rw [if_neg c34] at H
         have c34b0 : ((l0_4.length : Int) == 0) = false := beq_eq_false_iff_ne.mpr c34
         have c34b1 : ((l0_4.length : Int) != 0) = true := bne_iff_ne.mpr c34
         have c34b2 : ¬ (l0_4 = []) := fun h_ => c34 (by rw [h_]; rfl)
         obtain rfl := yF H
         obtain ⟨hcz36_0, hcz36_1, hcz36_2, hcz36_3, hcz36_4, hcz36_5, hfz36_0, hfz36_1, hfz36_2, hfz36_3, hfz36_4, hfz36_5⟩ := zb6 BK363.out
         go_wp2
         go_ret
         exact ⟨apE, apX⟩
       ·rw [if_neg c33] at H
        have c33b0 : decide ((a0_3.size : Int) ≤ 1500) = false := decide_eq_false c33
        have c33b1 : decide (a0_3.size ≤ 1500) = false := decide_eq_false (by omega)
        clear c33
        obtain rfl := yF H
        obtain ⟨hcz37_0, hcz37_1, hcz37_2, hcz37_3, hcz37_4, hcz37_5, hfz37_0, hfz37_1, hfz37_2, hfz37_3, hfz37_4, hfz37_5⟩ := zb6 BK363.out
        go_wp2
        go_ret
        exact ⟨apE, apX⟩
      ·rw [if_neg c32] at H
       have c32b0 : (a0_1 == 0 && (a0_2 == 0)) = false := by simpa using c32
       (try (have c32b1 : decide (a0_1 = 0 && (a0_2 == 0)) = false := by simpa using c32))
       (try (have c32b2 : (a0_1 == 0 && (a0_2 == 0)) = false := by simpa using c32))
       (try (have c32b3 : ¬ (a0_1 = 0 && (a0_2 == 0)) := by simpa using c32))
       clear c32
       obtain rfl := yF H
       obtain ⟨hcz38_0, hcz38_1, hcz38_2, hcz38_3, hcz38_4, hcz38_5, hfz38_0, hfz38_1, hfz38_2, hfz38_3, hfz38_4, hfz38_5⟩ := zb6 BK363.out
       go_wp2
       go_ret
       exact ⟨apE, apX⟩
     ·rw [if_neg c31] at H
      have c31b0 : (a0_0 == 4) = false := beq_eq_false_iff_ne.mpr c31
      have c31b1 : (a0_0 != 4) = true := bne_iff_ne.mpr c31
      by_cases c39 : a0_0 = 5
      ·rw [if_pos c39] at H
       have c39b0 : (a0_0 == 5) = true := beq_iff_eq.mpr c39
       have c39b1 : (a0_0 != 5) = false := bne_eq_false_iff_eq.mpr c39
       clear c39
       by_cases c40 : (a0_1 == 0 && (a0_2 == 0)) = true
       ·rw [if_pos c40] at H
        have c40b0 : (a0_1 == 0 && (a0_2 == 0)) = true := c40
        (try (have c40b1 : decide (a0_1 = 0 && (a0_2 == 0)) = true := by simpa using c40))
        (try (have c40b2 : (a0_1 == 0 && (a0_2 == 0)) = true := by simpa using c40))
        clear c40
        by_cases c41 : a0_3.toList = ([] : List UInt8)
        ·rw [if_pos c41] at H
         have c41b0 : (a0_3.toList == ([] : List UInt8)) = true := beq_iff_eq.mpr c41
         have c41b1 : (a0_3.toList != ([] : List UInt8)) = false := bne_eq_false_iff_eq.mpr c41
         clear c41
         obtain rfl := yF H
         obtain ⟨hcz42_0, hcz42_1, hcz42_2, hcz42_3, hcz42_4, hcz42_5, hfz42_0, hfz42_1, hfz42_2, hfz42_3, hfz42_4, hfz42_5⟩ := zb6 BK363.out
         go_wp2
         go_ret
         exact ⟨apE, apX⟩
        ·rw [if_neg c41] at H
         have c41b0 : (a0_3.toList == ([] : List UInt8)) = false := beq_eq_false_iff_ne.mpr c41
         have c41b1 : (a0_3.toList != ([] : List UInt8)) = true := bne_iff_ne.mpr c41
         obtain rfl := yF H
         obtain ⟨hcz43_0, hcz43_1, hcz43_2, hcz43_3, hcz43_4, hcz43_5, hfz43_0, hfz43_1, hfz43_2, hfz43_3, hfz43_4, hfz43_5⟩ := zb6 BK363.out
         go_wp2
         go_ret
         exact ⟨apE, apX⟩
       ·rw [if_neg c40] at H
        have c40b0 : (a0_1 == 0 && (a0_2 == 0)) = false := by simpa using c40
        (try (have c40b1 : decide (a0_1 = 0 && (a0_2 == 0)) = false := by simpa using c40))
        (try (have c40b2 : (a0_1 == 0 && (a0_2 == 0)) = false := by simpa using c40))
        (try (have c40b3 : ¬ (a0_1 = 0 && (a0_2 == 0)) := by simpa using c40))
        clear c40
        obtain rfl := yF H
        obtain ⟨hcz44_0, hcz44_1, hcz44_2, hcz44_3, hcz44_4, hcz44_5, hfz44_0, hfz44_1, hfz44_2, hfz44_3, hfz44_4, hfz44_5⟩ := zb6 BK363.out
        go_wp2
        go_ret
        exact ⟨apE, apX⟩
      ·rw [if_neg c39] at H
       have c39b0 : (a0_0 == 5) = false := beq_eq_false_iff_ne.mpr c39
       have c39b1 : (a0_0 != 5) = true := bne_iff_ne.mpr c39
       by_cases c45 : a0_0 = 6
       ·rw [if_pos c45] at H
        have c45b0 : (a0_0 == 6) = true := beq_iff_eq.mpr c45
        have c45b1 : (a0_0 != 6) = false := bne_eq_false_iff_eq.mpr c45
        clear c45
        by_cases c46 : (a0_1 == 0 && (a0_2 == 0)) = true
        ·rw [if_pos c46] at H
         have c46b0 : (a0_1 == 0 && (a0_2 == 0)) = true := c46
         (try (have c46b1 : decide (a0_1 = 0 && (a0_2 == 0)) = true := by simpa using c46))
         (try (have c46b2 : (a0_1 == 0 && (a0_2 == 0)) = true := by simpa using c46))
         clear c46
         by_cases c47 : a0_3.toList = ([] : List UInt8)
         ·rw [if_pos c47] at H
          have c47b0 : (a0_3.toList == ([] : List UInt8)) = true := beq_iff_eq.mpr c47
          have c47b1 : (a0_3.toList != ([] : List UInt8)) = false := bne_eq_false_iff_eq.mpr c47
          clear c47
          by_cases c48 : (l0_5.length : Int) = (l0_4.length : Int)
          ·rw [if_pos c48] at H
           have c48b0 : ((l0_5.length : Int) == (l0_4.length : Int)) = true := beq_iff_eq.mpr c48
           have c48b1 : ((l0_5.length : Int) != (l0_4.length : Int)) = false := bne_eq_false_iff_eq.mpr c48
           have c48b2 : (l0_5.length == l0_4.length) = true := by first | simpa using c48 | (simp at c48 ⊢; omega)
           clear c48
           replace H := Option.bind_eq_some_iff.mp H
           obtain ⟨t365, A490, H⟩ := H
           have A49 := zA A490
           clear A490
           obtain rfl := yF H
           obtain ⟨hcz50_0, hcz50_1, hcz50_2, hcz50_3, hcz50_4, hcz50_5, hfz50_0, hfz50_1, hfz50_2, hfz50_3, hfz50_4, hfz50_5⟩ := zb6 BK363.out
           go_wp2_with (first | (go_at_call 50; (with_reducible refine (spec_l7Names.calls kj1 _ _ l0_5 t365 _ ?side1 ?side2 A49.out).mono ?_); (case side1 => exact vc (Kd.C_below HR0_5.out HB.out)); (case side2 => exact HC0_5.out); rintro e w51 ⟨rfl, hb⟩; replace HB := zA (zQ apA hb); (try clear hb); (try clear hb2); (try clear hk); (try clear hi)))
           go_ret
           exact ⟨apE, apA⟩
          ·rw [if_neg c48] at H
           have c48b0 : ((l0_5.length : Int) == (l0_4.length : Int)) = false := beq_eq_false_iff_ne.mpr c48
           have c48b1 : ((l0_5.length : Int) != (l0_4.length : Int)) = true := bne_iff_ne.mpr c48
           have c48b2 : (l0_5.length == l0_4.length) = false := by first | simpa using c48 | (simp at c48 ⊢; omega)
           obtain rfl := yF H
           obtain ⟨hcz52_0, hcz52_1, hcz52_2, hcz52_3, hcz52_4, hcz52_5, hfz52_0, hfz52_1, hfz52_2, hfz52_3, hfz52_4, hfz52_5⟩ := zb6 BK363.out
           go_wp2
           go_ret
           exact ⟨apE, apX⟩
         ·rw [if_neg c47] at H
          have c47b0 : (a0_3.toList == ([] : List UInt8)) = false := beq_eq_false_iff_ne.mpr c47
          have c47b1 : (a0_3.toList != ([] : List UInt8)) = true := bne_iff_ne.mpr c47
          obtain rfl := yF H
          obtain ⟨hcz53_0, hcz53_1, hcz53_2, hcz53_3, hcz53_4, hcz53_5, hfz53_0, hfz53_1, hfz53_2, hfz53_3, hfz53_4, hfz53_5⟩ := zb6 BK363.out
          go_wp2
          go_ret
          exact ⟨apE, apX⟩
        ·rw [if_neg c46] at H
         have c46b0 : (a0_1 == 0 && (a0_2 == 0)) = false := by simpa using c46
         (try (have c46b1 : decide (a0_1 = 0 && (a0_2 == 0)) = false := by simpa using c46))
         (try (have c46b2 : (a0_1 == 0 && (a0_2 == 0)) = false := by simpa using c46))
         (try (have c46b3 : ¬ (a0_1 = 0 && (a0_2 == 0)) := by simpa using c46))
         clear c46
         obtain rfl := yF H
         obtain ⟨hcz54_0, hcz54_1, hcz54_2, hcz54_3, hcz54_4, hcz54_5, hfz54_0, hfz54_1, hfz54_2, hfz54_3, hfz54_4, hfz54_5⟩ := zb6 BK363.out
         go_wp2
         go_ret
         exact ⟨apE, apX⟩
       ·rw [if_neg c45] at H
        have c45b0 : (a0_0 == 6) = false := beq_eq_false_iff_ne.mpr c45
        have c45b1 : (a0_0 != 6) = true := bne_iff_ne.mpr c45
        obtain rfl := yF H
        go_wp2
        go_ret
        exact ⟨apE, apX⟩

end Go.Proofs.YtoajejdicfabmaaDoor.Q

namespace Go.Proofs.YtoajejdicfabmaaDoor.Q
open Go.RowKit Go.Proofs.YtoajejdicfabmaaDoorW.PrintWords Go.Proofs.YtoajejdicfabmaaDoorW.PrintLast Go.Proofs.YtoajejdicfabmaaDoorW.PrintMore Go.Proofs.YtoajejdicfabmaaDoorX
attribute [local go_sem] max2_int min2_int max_two min_two max_three min_three max_four min_four   -- for this text's walks alone
set_option linter.unusedVariables false
set_option linter.unusedSimpArgs false

mutual
def spec_l7All.l0 : Nat → Int → Int → Int → Int → ByteArray → List (S33) → List ByteArray → Option (Bool)
 | 0, _, _, _, _, _, _, _ => none
 | k + 1, x3, x367000, x367001, x367002, x367003, x367004, x367005 => if x3 < (x367004.length : Int) then (if 0 ≤ x3 then ((spec_l7All.f k ((rd_T33 x367004 x3).f0) ((rd_T33 x367004 x3).f1.f0) ((rd_T33 x367004 x3).f1.f1) ((rd_T33 x367004 x3).f2) ((rd_T33 x367004 x3).f3) ((rd_T33 x367004 x3).f4)).bind fun t369 => (if t369 = true then (spec_l7All.l0 k (wrap64 (x3 + 1)) x367000 x367001 x367002 x367003 x367004 x367005) else (some false))) else (none)) else (some true)
def spec_l7All.f : Nat → Int → Int → Int → ByteArray → List (S33) → List ByteArray → Option (Bool)
 | 0, _, _, _, _, _, _ => none
 | k + 1, a0_0, a0_1, a0_2, a0_3, l0_4, l0_5 => (spec_l7One.f k a0_0 a0_1 a0_2 a0_3 l0_4 l0_5).bind fun t367 => (if t367 = true then (spec_l7All.l0 k 0 a0_0 a0_1 a0_2 a0_3 l0_4 l0_5) else (some false))
end
theorem spec_l7All.mono_l : ∀ k, (∀ y0 y1 y2 y3 y4 y5, LeO (spec_l7All.f k y0 y1 y2 y3 y4 y5) (spec_l7All.f (k + 1) y0 y1 y2 y3 y4 y5)) ∧ (∀ y0 y1 y2 y3 y4 y5 y6, LeO (spec_l7All.l0 k y0 y1 y2 y3 y4 y5 y6) (spec_l7All.l0 (k + 1) y0 y1 y2 y3 y4 y5 y6))
 | 0 => ⟨fun _ _ _ _ _ _ r h => by simp [spec_l7All.f] at h, fun _ _ _ _ _ _ _ r h => by simp [spec_l7All.l0] at h⟩
 | k + 1 => by
  obtain ⟨ih0, ih1⟩ := spec_l7All.mono_l k
  refine ⟨?_, ?_⟩
  ·intro y0 y1 y2 y3 y4 y5
   unfold spec_l7All.f
   repeat' first
   | (with_reducible exact ih0 _ _ _ _ _ _)
   | (with_reducible exact ih1 _ _ _ _ _ _ _)
   | (with_reducible exact spec_l7One.mono _ _ _ _ _ _ _)
   | (with_reducible exact LeO.refl _)
   | (with_reducible exact LeO.none _)
   | (with_reducible refine LeO.ite ?_ ?_)
   | (with_reducible refine LeO.bind ?_ (fun _ => ?_))
   | exact ih0 _ _ _ _ _ _
   | exact ih1 _ _ _ _ _ _ _
  ·intro y0 y1 y2 y3 y4 y5 y6
   unfold spec_l7All.l0
   repeat' first
   | (with_reducible exact ih0 _ _ _ _ _ _)
   | (with_reducible exact ih1 _ _ _ _ _ _ _)
   | (with_reducible exact spec_l7One.mono _ _ _ _ _ _ _)
   | (with_reducible exact LeO.refl _)
   | (with_reducible exact LeO.none _)
   | (with_reducible refine LeO.ite ?_ ?_)
   | (with_reducible refine LeO.bind ?_ (fun _ => ?_))
   | exact ih0 _ _ _ _ _ _
   | exact ih1 _ _ _ _ _ _ _
theorem spec_l7All.mono : ∀ a0 a1 a2 a3 a4 a5 k, LeO (spec_l7All.f k a0 a1 a2 a3 a4 a5) (spec_l7All.f (k + 1) a0 a1 a2 a3 a4 a5) := by
 intro a0 a1 a2 a3 a4 a5 k
 obtain ⟨ih0, ih1⟩ := spec_l7All.mono_l k
 exact ih0 a0 a1 a2 a3 a4 a5
set_option maxHeartbeats 8000000 in
set_option maxRecDepth 100000 in
theorem spec_l7All.calls (k : Nat) : ∀ (a0_0 : Int) (a0_1 : Int) (a0_2 : Int) (a0_3 : ByteArray) (A0_4 : Option Addr) (c0_4 : Nat) (l0_4 : List (S33)) (A0_5 : Option Addr) (c0_5 : Nat) (l0_5 : List ByteArray) (r : Bool) (w : World) (hr0_4 : Kd.C k33 w A0_4 l0_4.length l0_4) (hc0_4 : l0_4.length ≤ c0_4) (hr0_5 : Kd.C Kd.string w A0_5 l0_5.length l0_5) (hc0_5 : l0_5.length ≤ c0_5) (h : spec_l7All.f k a0_0 a0_1 a0_2 a0_3 l0_4 l0_5 = some r),
  Calls Tryd.prog 20 #[.agg #[.int .i64 a0_0, .int .i64 a0_1, .int .i64 a0_2, .string a0_3, .slice A0_4 l0_4.length c0_4, .slice A0_5 l0_5.length c0_5]] w fun e w' => e = .returned (.bool r) ∧ Below w.heap.size w w' := by
 induction k using Nat.strongRecOn with
 | _ k ih =>
 intro a0_0 a0_1 a0_2 a0_3 A0_4 c0_4 l0_4 A0_5 c0_5 l0_5 r w hr0_4 hc0_4 hr0_5 hc0_5 h
 cases k with
 | zero => exact absurd h (by simp [spec_l7All.f])
 | succ k =>
 simp only [spec_l7All.f] at h
 have hu33 := Tryd.underlying33
 have HR0_4 := zA hr0_4
 have HC0_4 := zA hc0_4
 clear hr0_4 hc0_4
 have HR0_5 := zA hr0_5
 have HC0_5 := zA hc0_5
 clear hr0_5 hc0_5
 have HB := zA (yG w.heap.size w)
 have H : ((spec_l7One.f k a0_0 a0_1 a0_2 a0_3 l0_4 l0_5).bind fun t367 => (if t367 = true then (spec_l7All.l0 k 0 a0_0 a0_1 a0_2 a0_3 l0_4 l0_5) else (some false))) = some r := h
 clear h
 replace H := Option.bind_eq_some_iff.mp H
 obtain ⟨t367, A20, H⟩ := H
 have A2 := zA A20
 clear A20
 by_cases c3 : t367 = true
 ·subst c3
  have H1 := H; rw [if_pos rfl] at H1
  clear H
  have H := H1
  clear H1
  have H' := zA H
  clear H
  go_enter Tryd.func20, Tryd.ntmps20
  go_wp2_with (first | ((with_reducible refine zT (N := 1) rfl ?_); refine zW ?hg (N := 1) ?hd (cs := #[.int .i64 a0_0, .int .i64 a0_1, .int .i64 a0_2, .string a0_3, .slice A0_4 l0_4.length c0_4, .slice A0_5 l0_5.length c0_5]) (t := 33) ?hr ?_; (case hd => rfl); (case hg => rfl); (case hr => first | (go_simp; done) | (go_simp; rfl)); intro gb366 hg w4 hbox hb; have BK366 := zA (hbox); have GW366 := zA ((by rw [hg]; exact (zR apA) : w.heap.size ≤ gb366)); have GE366 := zA ((by rw [hg]; exact (zR apA) : w.heap.size ≤ gb366)); replace HB := zA (zQ apA hb); clear hb hbox hg; obtain ⟨hcz5_0, hcz5_1, hcz5_2, hcz5_3, hcz5_4, hcz5_5, hfz5_0, hfz5_1, hfz5_2, hfz5_3, hfz5_4, hfz5_5⟩ := zb6 BK366.out) | ((with_reducible refine zV (f := 34) rfl ?_); refine goesL_ (some 5) rfl rfl Tryd.func34 (by kernel_rfl) rfl #[.agg #[.int .i64 a0_0, .int .i64 a0_1, .int .i64 a0_2, .string a0_3, .slice A0_4 l0_4.length c0_4, .slice A0_5 l0_5.length c0_5]] rfl apD ?_; (with_reducible refine (spec_l7One.calls k a0_0 a0_1 a0_2 a0_3 _ _ l0_4 _ _ l0_5 true _ ?side1 ?side2 ?side3 ?side4 A2.out).mono ?_); (case side1 => exact vc (Kd.C_below HR0_4.out HB.out)); (case side2 => exact HC0_4.out); (case side3 => exact vc (Kd.C_below HR0_5.out HB.out)); (case side4 => exact HC0_5.out); rintro e w6 ⟨rfl, hb⟩; refine ⟨_, rfl, ?_⟩; replace BK366 := zA (zP (g := gb366) (o := .cells #[.int .i64 a0_0, .int .i64 a0_1, .int .i64 a0_2, .string a0_3, .slice A0_4 l0_4.length c0_4, .slice A0_5 l0_5.length c0_5] 33 (0, 0)) (by (with_reducible repeat (first | refine zB ?_ _ | refine zD ?_ | refine zC ?_ _)); exact BK366.out) hb); replace HB := zA (zQ (by repeat (first | (with_reducible first | exact HB.out | apply zG | apply zE | apply zF | refine zH ?_ GE366.out) | exact HB.out)) hb); (try clear hb); (try clear hb2); (try clear hk); (try clear hi)))
  go_loopg [3] k (fun kq v3 w' => ∃ (x3_1 : Int), v3 = .int .i64 x3_1 ∧ Aside0 (spec_l7All.l0 kq x3_1 a0_0 a0_1 a0_2 a0_3 l0_4 l0_5 = some r) ∧ Aside0 (kq ≤ k) ∧ Aside0 (w'.heap[gb366]? = some (.cells #[.int .i64 a0_0, .int .i64 a0_1, .int .i64 a0_2, .string a0_3, (.slice A0_4 l0_4.length c0_4), (.slice A0_5 l0_5.length c0_5)] 33 (0, 0))) ∧ Aside0 (Below w.heap.size w w'))
  case atStart => exact ⟨(0), apB, H', ⟨yH _⟩, ⟨by (with_reducible repeat (first | refine zB ?_ _ | refine zD ?_ | refine zC ?_ _)); exact BK366.out⟩, ⟨by repeat (first | (with_reducible first | exact HB.out | apply zG | apply zE | apply zF | refine zH ?_ GE366.out) | exact HB.out)⟩⟩
  case round =>
   clear H'
   try clear c2 p2 c3 hcz5_0 hcz5_1 hcz5_2 hcz5_3 hcz5_4 hcz5_5 hfz5_0 hfz5_1 hfz5_2 hfz5_3 hfz5_4 hfz5_5
   obtain ⟨x3_1, rfl, HA, HK1, BK366, HB⟩ := hrel
   cases gk with
   | zero => exact absurd HA.out (by simp [spec_l7All.l0])
   | succ k1 =>
    have H := HA.out
    clear HA
    simp only [spec_l7All.l0] at H
    by_cases c7 : x3_1 < (l0_4.length : Int)
    ·rw [if_pos c7] at H
     have c7b0 : decide (x3_1 < (l0_4.length : Int)) = true := yD c7
     clear c7
     by_cases c8 : 0 ≤ x3_1
     ·rw [if_pos c8] at H
      have c8b0 : decide (0 ≤ x3_1) = true := yD c8
      clear c8
      replace H := Option.bind_eq_some_iff.mp H
      obtain ⟨t369, A90, H⟩ := H
      have A9 := zA A90
      clear A90
      by_cases c10 : t369 = true
      ·subst c10
       have H1 := H; rw [if_pos rfl] at H1
       clear H
       have H := H1
       clear H1
       have H' := zA H
       clear H
       obtain ⟨hcz11_0, hcz11_1, hcz11_2, hcz11_3, hcz11_4, hcz11_5, hfz11_0, hfz11_1, hfz11_2, hfz11_3, hfz11_4, hfz11_5⟩ := zb6 BK366.out
       have p368 : 0 ≤ (x3_1 : Int) := yE apC
       have q368 : x3_1 < (l0_4.length : Int) := yE apC
       obtain ⟨ad368, A368_4, c368_4, A368_5, c368_5, e368, hx368_0, hx368_1, hx368_2, hx368_3, hx368_4, hx368_5, hl368_4, hi368_4, hl368_5, hi368_5⟩ := at_T33 HR0_4.out x3_1 p368 q368
       cases e368
       replace hx368_0 := (HB.out.cell (zS w _ hx368_0)).trans hx368_0
       replace hx368_1 := (HB.out.cell (zS w _ hx368_1)).trans hx368_1
       replace hx368_2 := (HB.out.cell (zS w _ hx368_2)).trans hx368_2
       replace hx368_3 := (HB.out.cell (zS w _ hx368_3)).trans hx368_3
       replace hx368_4 := (HB.out.cell (zS w _ hx368_4)).trans hx368_4
       replace hx368_5 := (HB.out.cell (zS w _ hx368_5)).trans hx368_5
       have HR368_4 := zA hi368_4
       have HC368_4 := zA hl368_4
       clear hi368_4 hl368_4
       have HR368_5 := zA hi368_5
       have HC368_5 := zA hl368_5
       clear hi368_5 hl368_5
       replace p368 := eq_true p368
       replace q368 := eq_true q368
       go_wp2_with (first | ((with_reducible refine zV (f := 20) rfl ?_); refine goesL_ (some 19) rfl rfl Tryd.func20 (by kernel_rfl) rfl #[.agg #[.int .i64 ((rd_T33 l0_4 x3_1).f0), .int .i64 ((rd_T33 l0_4 x3_1).f1.f0), .int .i64 ((rd_T33 l0_4 x3_1).f1.f1), .string ((rd_T33 l0_4 x3_1).f2), .slice A368_4 ((rd_T33 l0_4 x3_1).f3).length c368_4, .slice A368_5 ((rd_T33 l0_4 x3_1).f4).length c368_5]] rfl apD ?_; (with_reducible refine (ih k1 (by have := HK1.out; omega) ((rd_T33 l0_4 x3_1).f0) ((rd_T33 l0_4 x3_1).f1.f0) ((rd_T33 l0_4 x3_1).f1.f1) ((rd_T33 l0_4 x3_1).f2) _ _ ((rd_T33 l0_4 x3_1).f3) _ _ ((rd_T33 l0_4 x3_1).f4) true _ ?side1 ?side2 ?side3 ?side4 A9.out).mono ?_); (case side1 => exact vc (Kd.C_below HR368_4.out HB.out)); (case side2 => exact HC368_4.out); (case side3 => exact vc (Kd.C_below HR368_5.out HB.out)); (case side4 => exact HC368_5.out); rintro e w12 ⟨rfl, hb⟩; refine ⟨_, rfl, ?_⟩; replace BK366 := zA (zP (g := gb366) (o := .cells #[.int .i64 a0_0, .int .i64 a0_1, .int .i64 a0_2, .string a0_3, .slice (some ad368) l0_4.length c0_4, .slice A0_5 l0_5.length c0_5] 33 (0, 0)) (by (with_reducible repeat (first | refine zB ?_ _ | refine zD ?_ | refine zC ?_ _)); exact BK366.out) hb); replace HB := zA (zQ (by repeat (first | (with_reducible first | exact HB.out | apply zG | apply zE | apply zF | refine zH ?_ GE366.out) | exact HB.out)) hb); (try clear hb); (try clear hb2); (try clear hk); (try clear hi)))
       go_roundg k1
       case measure => have := HK1.out; omega
       case rel => exact ⟨(wrap64 (x3_1 + 1)), apB, H', ⟨by have := HK1.out; omega⟩, ⟨by (with_reducible repeat (first | refine zB ?_ _ | refine zD ?_ | refine zC ?_ _)); exact BK366.out⟩, ⟨by repeat (first | (with_reducible first | exact HB.out | apply zG | apply zE | apply zF | refine zH ?_ GE366.out) | exact HB.out)⟩⟩
      ·replace c10 := Bool.eq_false_iff.mpr c10
       subst c10
       have H1 := H; rw [if_neg (show ¬ (false = true) by decide)] at H1
       clear H
       have H := H1
       clear H1
       obtain rfl := yF H
       obtain ⟨hcz13_0, hcz13_1, hcz13_2, hcz13_3, hcz13_4, hcz13_5, hfz13_0, hfz13_1, hfz13_2, hfz13_3, hfz13_4, hfz13_5⟩ := zb6 BK366.out
       have p368 : 0 ≤ (x3_1 : Int) := yE apC
       have q368 : x3_1 < (l0_4.length : Int) := yE apC
       obtain ⟨ad368, A368_4, c368_4, A368_5, c368_5, e368, hx368_0, hx368_1, hx368_2, hx368_3, hx368_4, hx368_5, hl368_4, hi368_4, hl368_5, hi368_5⟩ := at_T33 HR0_4.out x3_1 p368 q368
       cases e368
       replace hx368_0 := (HB.out.cell (zS w _ hx368_0)).trans hx368_0
       replace hx368_1 := (HB.out.cell (zS w _ hx368_1)).trans hx368_1
       replace hx368_2 := (HB.out.cell (zS w _ hx368_2)).trans hx368_2
       replace hx368_3 := (HB.out.cell (zS w _ hx368_3)).trans hx368_3
       replace hx368_4 := (HB.out.cell (zS w _ hx368_4)).trans hx368_4
       replace hx368_5 := (HB.out.cell (zS w _ hx368_5)).trans hx368_5
       have HR368_4 := zA hi368_4
       have HC368_4 := zA hl368_4
       clear hi368_4 hl368_4
       have HR368_5 := zA hi368_5
       have HC368_5 := zA hl368_5
       clear hi368_5 hl368_5
       replace p368 := eq_true p368
       replace q368 := eq_true q368
       go_wp2_with (first | ((with_reducible refine zV (f := 20) rfl ?_); refine goesL_ (some 19) rfl rfl Tryd.func20 (by kernel_rfl) rfl #[.agg #[.int .i64 ((rd_T33 l0_4 x3_1).f0), .int .i64 ((rd_T33 l0_4 x3_1).f1.f0), .int .i64 ((rd_T33 l0_4 x3_1).f1.f1), .string ((rd_T33 l0_4 x3_1).f2), .slice A368_4 ((rd_T33 l0_4 x3_1).f3).length c368_4, .slice A368_5 ((rd_T33 l0_4 x3_1).f4).length c368_5]] rfl apD ?_; (with_reducible refine (ih k1 (by have := HK1.out; omega) ((rd_T33 l0_4 x3_1).f0) ((rd_T33 l0_4 x3_1).f1.f0) ((rd_T33 l0_4 x3_1).f1.f1) ((rd_T33 l0_4 x3_1).f2) _ _ ((rd_T33 l0_4 x3_1).f3) _ _ ((rd_T33 l0_4 x3_1).f4) false _ ?side1 ?side2 ?side3 ?side4 A9.out).mono ?_); (case side1 => exact vc (Kd.C_below HR368_4.out HB.out)); (case side2 => exact HC368_4.out); (case side3 => exact vc (Kd.C_below HR368_5.out HB.out)); (case side4 => exact HC368_5.out); rintro e w14 ⟨rfl, hb⟩; refine ⟨_, rfl, ?_⟩; replace HB := zA (zQ apA hb); (try clear hb); (try clear hb2); (try clear hk); (try clear hi)))
       go_ret
       exact ⟨apE, apA⟩
     ·rw [if_neg c8] at H
      exact absurd H (by simp)
    ·rw [if_neg c7] at H
     have c7b0 : decide (x3_1 < (l0_4.length : Int)) = false := decide_eq_false c7
     clear c7
     obtain rfl := yF H
     obtain ⟨hcz15_0, hcz15_1, hcz15_2, hcz15_3, hcz15_4, hcz15_5, hfz15_0, hfz15_1, hfz15_2, hfz15_3, hfz15_4, hfz15_5⟩ := zb6 BK366.out
     go_wp2
     go_ret
     exact ⟨apE, by repeat (first | (with_reducible first | exact HB.out | apply zG | apply zE | apply zF | refine zH ?_ GE366.out) | exact HB.out)⟩
 ·replace c3 := Bool.eq_false_iff.mpr c3
  subst c3
  have H1 := H; rw [if_neg (show ¬ (false = true) by decide)] at H1
  clear H
  have H := H1
  clear H1
  obtain rfl := yF H
  go_enter Tryd.func20, Tryd.ntmps20
  go_wp2_with (first | ((with_reducible refine zT (N := 1) rfl ?_); refine zW ?hg (N := 1) ?hd (cs := #[.int .i64 a0_0, .int .i64 a0_1, .int .i64 a0_2, .string a0_3, .slice A0_4 l0_4.length c0_4, .slice A0_5 l0_5.length c0_5]) (t := 33) ?hr ?_; (case hd => rfl); (case hg => rfl); (case hr => first | (go_simp; done) | (go_simp; rfl)); intro gb366 hg w16 hbox hb; have BK366 := zA (hbox); have GW366 := zA ((by rw [hg]; exact (zR apA) : w.heap.size ≤ gb366)); have GE366 := zA ((by rw [hg]; exact (zR apA) : w.heap.size ≤ gb366)); replace HB := zA (zQ apA hb); clear hb hbox hg; obtain ⟨hcz17_0, hcz17_1, hcz17_2, hcz17_3, hcz17_4, hcz17_5, hfz17_0, hfz17_1, hfz17_2, hfz17_3, hfz17_4, hfz17_5⟩ := zb6 BK366.out) | ((with_reducible refine zV (f := 34) rfl ?_); refine goesL_ (some 5) rfl rfl Tryd.func34 (by kernel_rfl) rfl #[.agg #[.int .i64 a0_0, .int .i64 a0_1, .int .i64 a0_2, .string a0_3, .slice A0_4 l0_4.length c0_4, .slice A0_5 l0_5.length c0_5]] rfl apD ?_; (with_reducible refine (spec_l7One.calls k a0_0 a0_1 a0_2 a0_3 _ _ l0_4 _ _ l0_5 false _ ?side1 ?side2 ?side3 ?side4 A2.out).mono ?_); (case side1 => exact vc (Kd.C_below HR0_4.out HB.out)); (case side2 => exact HC0_4.out); (case side3 => exact vc (Kd.C_below HR0_5.out HB.out)); (case side4 => exact HC0_5.out); rintro e w18 ⟨rfl, hb⟩; refine ⟨_, rfl, ?_⟩; replace HB := zA (zQ apA hb); (try clear hb); (try clear hb2); (try clear hk); (try clear hi)))
  go_ret
  exact ⟨apE, apA⟩


def spec_ValueOk.f (k : Nat) (a0_0 : Int) (a0_1 : Int) (a0_2 : Int) (a0_3 : ByteArray) (l0_4 : List (S33)) (l0_5 : List ByteArray) : Option (Bool) := (spec_ValueSize.f k a0_0 a0_1 a0_2 a0_3 l0_4 l0_5).bind fun t371 => (if t371 ≤ 200 then ((spec_l7Deep.f k a0_0 a0_1 a0_2 a0_3 l0_4 l0_5).bind fun t372 => (if t372 ≤ 20 then ((spec_l7All.f k a0_0 a0_1 a0_2 a0_3 l0_4 l0_5).bind fun t373 => (some t373)) else (some false))) else (some false))
theorem spec_ValueOk.mono : ∀ a0 a1 a2 a3 a4 a5 k, LeO (spec_ValueOk.f k a0 a1 a2 a3 a4 a5) (spec_ValueOk.f (k + 1) a0 a1 a2 a3 a4 a5) := by
 intro a0 a1 a2 a3 a4 a5 k
 unfold spec_ValueOk.f
 repeat' first
   | (with_reducible exact spec_ValueSize.mono _ _ _ _ _ _ _)
   | (with_reducible exact spec_l7All.mono _ _ _ _ _ _ _)
   | (with_reducible exact spec_l7Deep.mono _ _ _ _ _ _ _)
   | (with_reducible exact LeO.refl _)
   | (with_reducible exact LeO.none _)
   | (with_reducible refine LeO.ite ?_ ?_)
   | (with_reducible refine LeO.bind ?_ (fun _ => ?_))
set_option maxHeartbeats 8000000 in
set_option maxRecDepth 100000 in
theorem spec_ValueOk.calls (k : Nat) (a0_0 : Int) (a0_1 : Int) (a0_2 : Int) (a0_3 : ByteArray) (A0_4 : Option Addr) (c0_4 : Nat) (l0_4 : List (S33)) (A0_5 : Option Addr) (c0_5 : Nat) (l0_5 : List ByteArray) (r : Bool) (w : World) (hr0_4 : Kd.C k33 w A0_4 l0_4.length l0_4) (hc0_4 : l0_4.length ≤ c0_4) (hr0_5 : Kd.C Kd.string w A0_5 l0_5.length l0_5) (hc0_5 : l0_5.length ≤ c0_5) (h : spec_ValueOk.f k a0_0 a0_1 a0_2 a0_3 l0_4 l0_5 = some r) :
  Calls Tryd.prog 7 #[.agg #[.int .i64 a0_0, .int .i64 a0_1, .int .i64 a0_2, .string a0_3, .slice A0_4 l0_4.length c0_4, .slice A0_5 l0_5.length c0_5]] w fun e w' => e = .returned (.bool r) ∧ Below w.heap.size w w' := by
 have hu33 := Tryd.underlying33
 have HR0_4 := zA hr0_4
 have HC0_4 := zA hc0_4
 clear hr0_4 hc0_4
 have HR0_5 := zA hr0_5
 have HC0_5 := zA hc0_5
 clear hr0_5 hc0_5
 have HB := zA (yG w.heap.size w)
 have H : ((spec_ValueSize.f k a0_0 a0_1 a0_2 a0_3 l0_4 l0_5).bind fun t371 => (if t371 ≤ 200 then ((spec_l7Deep.f k a0_0 a0_1 a0_2 a0_3 l0_4 l0_5).bind fun t372 => (if t372 ≤ 20 then ((spec_l7All.f k a0_0 a0_1 a0_2 a0_3 l0_4 l0_5).bind fun t373 => (some t373)) else (some false))) else (some false))) = some r := h
 clear h
 replace H := Option.bind_eq_some_iff.mp H
 obtain ⟨t371, A20, H⟩ := H
 have A2 := zA A20
 clear A20
 by_cases c3 : t371 ≤ 200
 ·rw [if_pos c3] at H
  have c3b0 : decide (t371 ≤ 200) = true := yD c3
  clear c3
  replace H := Option.bind_eq_some_iff.mp H
  obtain ⟨t372, A40, H⟩ := H
  have A4 := zA A40
  clear A40
  by_cases c5 : t372 ≤ 20
  ·rw [if_pos c5] at H
   have c5b0 : decide (t372 ≤ 20) = true := yD c5
   clear c5
   replace H := Option.bind_eq_some_iff.mp H
   obtain ⟨t373, A60, H⟩ := H
   have A6 := zA A60
   clear A60
   obtain rfl := yF H
   go_enter Tryd.func7, Tryd.ntmps7
   go_wp2_with (first | ((with_reducible refine zT (N := 1) rfl ?_); refine zW ?hg (N := 1) ?hd (cs := #[.int .i64 a0_0, .int .i64 a0_1, .int .i64 a0_2, .string a0_3, .slice A0_4 l0_4.length c0_4, .slice A0_5 l0_5.length c0_5]) (t := 33) ?hr ?_; (case hd => rfl); (case hg => rfl); (case hr => first | (go_simp; done) | (go_simp; rfl)); intro gb370 hg w7 hbox hb; have BK370 := zA (hbox); have GW370 := zA ((by rw [hg]; exact (zR apA) : w.heap.size ≤ gb370)); have GE370 := zA ((by rw [hg]; exact (zR apA) : w.heap.size ≤ gb370)); replace HB := zA (zQ apA hb); clear hb hbox hg; obtain ⟨hcz8_0, hcz8_1, hcz8_2, hcz8_3, hcz8_4, hcz8_5, hfz8_0, hfz8_1, hfz8_2, hfz8_3, hfz8_4, hfz8_5⟩ := zb6 BK370.out) | ((with_reducible refine zV (f := 13) rfl ?_); refine goesL_ (some 4) rfl rfl Tryd.func13 (by kernel_rfl) rfl #[.agg #[.int .i64 a0_0, .int .i64 a0_1, .int .i64 a0_2, .string a0_3, .slice A0_4 l0_4.length c0_4, .slice A0_5 l0_5.length c0_5]] rfl apD ?_; (with_reducible refine (spec_ValueSize.calls k a0_0 a0_1 a0_2 a0_3 _ _ l0_4 _ _ l0_5 t371 _ ?side1 ?side2 ?side3 ?side4 A2.out).mono ?_); (case side1 => exact vc (Kd.C_below HR0_4.out HB.out)); (case side2 => exact HC0_4.out); (case side3 => exact vc (Kd.C_below HR0_5.out HB.out)); (case side4 => exact HC0_5.out); rintro e w9 ⟨rfl, hb⟩; refine ⟨_, rfl, ?_⟩; replace BK370 := zA (zP (g := gb370) (o := .cells #[.int .i64 a0_0, .int .i64 a0_1, .int .i64 a0_2, .string a0_3, .slice A0_4 l0_4.length c0_4, .slice A0_5 l0_5.length c0_5] 33 (0, 0)) (by (with_reducible repeat (first | refine zB ?_ _ | refine zD ?_ | refine zC ?_ _)); exact BK370.out) hb); replace HB := zA (zQ (by repeat (first | (with_reducible first | exact HB.out | apply zG | apply zE | apply zF | refine zH ?_ GE370.out) | exact HB.out)) hb); (try clear hb); (try clear hb2); (try clear hk); (try clear hi); obtain ⟨hcz10_0, hcz10_1, hcz10_2, hcz10_3, hcz10_4, hcz10_5, hfz10_0, hfz10_1, hfz10_2, hfz10_3, hfz10_4, hfz10_5⟩ := zb6 BK370.out) | (go_at_call 19; (with_reducible refine (spec_l7Deep.calls k a0_0 a0_1 a0_2 a0_3 _ _ l0_4 _ _ l0_5 t372 _ ?side1 ?side2 ?side3 ?side4 A4.out).mono ?_); (case side1 => exact vc (Kd.C_below HR0_4.out HB.out)); (case side2 => exact HC0_4.out); (case side3 => exact vc (Kd.C_below HR0_5.out HB.out)); (case side4 => exact HC0_5.out); rintro e w11 ⟨rfl, hb⟩; replace BK370 := zA (zP (g := gb370) (o := .cells #[.int .i64 a0_0, .int .i64 a0_1, .int .i64 a0_2, .string a0_3, .slice A0_4 l0_4.length c0_4, .slice A0_5 l0_5.length c0_5] 33 (0, 0)) (by (with_reducible repeat (first | refine zB ?_ _ | refine zD ?_ | refine zC ?_ _)); exact BK370.out) hb); replace HB := zA (zQ (by repeat (first | (with_reducible first | exact HB.out | apply zG | apply zE | apply zF | refine zH ?_ GE370.out) | exact HB.out)) hb); (try clear hb); (try clear hb2); (try clear hk); (try clear hi); obtain ⟨hcz12_0, hcz12_1, hcz12_2, hcz12_3, hcz12_4, hcz12_5, hfz12_0, hfz12_1, hfz12_2, hfz12_3, hfz12_4, hfz12_5⟩ := zb6 BK370.out) | (go_at_call 20; (with_reducible refine (spec_l7All.calls k a0_0 a0_1 a0_2 a0_3 _ _ l0_4 _ _ l0_5 t373 _ ?side1 ?side2 ?side3 ?side4 A6.out).mono ?_); (case side1 => exact vc (Kd.C_below HR0_4.out HB.out)); (case side2 => exact HC0_4.out); (case side3 => exact vc (Kd.C_below HR0_5.out HB.out)); (case side4 => exact HC0_5.out); rintro e w13 ⟨rfl, hb⟩; replace HB := zA (zQ apA hb); (try clear hb); (try clear hb2); (try clear hk); (try clear hi)))
   go_ret
   exact ⟨apE, apA⟩
  ·rw [if_neg c5] at H
   have c5b0 : decide (t372 ≤ 20) = false := decide_eq_false c5
   clear c5
   obtain rfl := yF H
   go_enter Tryd.func7, Tryd.ntmps7
   go_wp2_with (first | ((with_reducible refine zT (N := 1) rfl ?_); refine zW ?hg (N := 1) ?hd (cs := #[.int .i64 a0_0, .int .i64 a0_1, .int .i64 a0_2, .string a0_3, .slice A0_4 l0_4.length c0_4, .slice A0_5 l0_5.length c0_5]) (t := 33) ?hr ?_; (case hd => rfl); (case hg => rfl); (case hr => first | (go_simp; done) | (go_simp; rfl)); intro gb370 hg w14 hbox hb; have BK370 := zA (hbox); have GW370 := zA ((by rw [hg]; exact (zR apA) : w.heap.size ≤ gb370)); have GE370 := zA ((by rw [hg]; exact (zR apA) : w.heap.size ≤ gb370)); replace HB := zA (zQ apA hb); clear hb hbox hg; obtain ⟨hcz15_0, hcz15_1, hcz15_2, hcz15_3, hcz15_4, hcz15_5, hfz15_0, hfz15_1, hfz15_2, hfz15_3, hfz15_4, hfz15_5⟩ := zb6 BK370.out) | ((with_reducible refine zV (f := 13) rfl ?_); refine goesL_ (some 4) rfl rfl Tryd.func13 (by kernel_rfl) rfl #[.agg #[.int .i64 a0_0, .int .i64 a0_1, .int .i64 a0_2, .string a0_3, .slice A0_4 l0_4.length c0_4, .slice A0_5 l0_5.length c0_5]] rfl apD ?_; (with_reducible refine (spec_ValueSize.calls k a0_0 a0_1 a0_2 a0_3 _ _ l0_4 _ _ l0_5 t371 _ ?side1 ?side2 ?side3 ?side4 A2.out).mono ?_); (case side1 => exact vc (Kd.C_below HR0_4.out HB.out)); (case side2 => exact HC0_4.out); (case side3 => exact vc (Kd.C_below HR0_5.out HB.out)); (case side4 => exact HC0_5.out); rintro e w16 ⟨rfl, hb⟩; refine ⟨_, rfl, ?_⟩; replace BK370 := zA (zP (g := gb370) (o := .cells #[.int .i64 a0_0, .int .i64 a0_1, .int .i64 a0_2, .string a0_3, .slice A0_4 l0_4.length c0_4, .slice A0_5 l0_5.length c0_5] 33 (0, 0)) (by (with_reducible repeat (first | refine zB ?_ _ | refine zD ?_ | refine zC ?_ _)); exact BK370.out) hb); replace HB := zA (zQ (by repeat (first | (with_reducible first | exact HB.out | apply zG | apply zE | apply zF | refine zH ?_ GE370.out) | exact HB.out)) hb); (try clear hb); (try clear hb2); (try clear hk); (try clear hi); obtain ⟨hcz17_0, hcz17_1, hcz17_2, hcz17_3, hcz17_4, hcz17_5, hfz17_0, hfz17_1, hfz17_2, hfz17_3, hfz17_4, hfz17_5⟩ := zb6 BK370.out) | (go_at_call 19; (with_reducible refine (spec_l7Deep.calls k a0_0 a0_1 a0_2 a0_3 _ _ l0_4 _ _ l0_5 t372 _ ?side1 ?side2 ?side3 ?side4 A4.out).mono ?_); (case side1 => exact vc (Kd.C_below HR0_4.out HB.out)); (case side2 => exact HC0_4.out); (case side3 => exact vc (Kd.C_below HR0_5.out HB.out)); (case side4 => exact HC0_5.out); rintro e w18 ⟨rfl, hb⟩; replace HB := zA (zQ apA hb); (try clear hb); (try clear hb2); (try clear hk); (try clear hi)))
   go_ret
   exact ⟨apE, apA⟩
 ·rw [if_neg c3] at H
  have c3b0 : decide (t371 ≤ 200) = false := decide_eq_false c3
  clear c3
  obtain rfl := yF H
  go_enter Tryd.func7, Tryd.ntmps7
  go_wp2_with (first | ((with_reducible refine zT (N := 1) rfl ?_); refine zW ?hg (N := 1) ?hd (cs := #[.int .i64 a0_0, .int .i64 a0_1, .int .i64 a0_2, .string a0_3, .slice A0_4 l0_4.length c0_4, .slice A0_5 l0_5.length c0_5]) (t := 33) ?hr ?_; (case hd => rfl); (case hg => rfl); (case hr => first | (go_simp; done) | (go_simp; rfl)); intro gb370 hg w19 hbox hb; have BK370 := zA (hbox); have GW370 := zA ((by rw [hg]; exact (zR apA) : w.heap.size ≤ gb370)); have GE370 := zA ((by rw [hg]; exact (zR apA) : w.heap.size ≤ gb370)); replace HB := zA (zQ apA hb); clear hb hbox hg; obtain ⟨hcz20_0, hcz20_1, hcz20_2, hcz20_3, hcz20_4, hcz20_5, hfz20_0, hfz20_1, hfz20_2, hfz20_3, hfz20_4, hfz20_5⟩ := zb6 BK370.out) | ((with_reducible refine zV (f := 13) rfl ?_); refine goesL_ (some 4) rfl rfl Tryd.func13 (by kernel_rfl) rfl #[.agg #[.int .i64 a0_0, .int .i64 a0_1, .int .i64 a0_2, .string a0_3, .slice A0_4 l0_4.length c0_4, .slice A0_5 l0_5.length c0_5]] rfl apD ?_; (with_reducible refine (spec_ValueSize.calls k a0_0 a0_1 a0_2 a0_3 _ _ l0_4 _ _ l0_5 t371 _ ?side1 ?side2 ?side3 ?side4 A2.out).mono ?_); (case side1 => exact vc (Kd.C_below HR0_4.out HB.out)); (case side2 => exact HC0_4.out); (case side3 => exact vc (Kd.C_below HR0_5.out HB.out)); (case side4 => exact HC0_5.out); rintro e w21 ⟨rfl, hb⟩; refine ⟨_, rfl, ?_⟩; replace HB := zA (zQ apA hb); (try clear hb); (try clear hb2); (try clear hk); (try clear hi)))
  go_ret
  exact ⟨apE, apA⟩

end Go.Proofs.YtoajejdicfabmaaDoor.Q

namespace Go.Proofs.YtoajejdicfabmaaDoor.Q
open Go.RowKit Go.Proofs.YtoajejdicfabmaaDoorW.PrintWords Go.Proofs.YtoajejdicfabmaaDoorW.PrintLast Go.Proofs.YtoajejdicfabmaaDoorW.PrintMore Go.Proofs.YtoajejdicfabmaaDoorX
attribute [local go_sem] max2_int min2_int max_two min_two max_three min_three max_four min_four   -- for this text's walks alone
set_option linter.unusedVariables false
set_option linter.unusedSimpArgs false

attribute [local go_sem high] eqA30
def impl_DecOk.f (a0_0 : Int) (a0_1 : Int) : Option (Bool) := if (-99999999) ≤ a0_0 then (if a0_0 ≤ 99999999 then (if (-8) ≤ a0_1 then (if a0_1 ≤ 8 then (if (Int.tmod a0_0 10) = 0 then (some (a0_0 == 0 && (a0_1 == 0))) else (some true)) else (some false)) else (some false)) else (some false)) else (some false)
set_option maxHeartbeats 8000000 in
set_option maxRecDepth 100000 in
theorem impl_DecOk.calls (a0_0 : Int) (a0_1 : Int) (r : Bool) (w : World) (h : impl_DecOk.f a0_0 a0_1 = some r) :
  Calls Tryd.prog 35 #[.agg #[.int .i64 a0_0, .int .i64 a0_1]] w fun e w' => e = .returned (.bool r) ∧ Below w.heap.size w w' := by
 have hu30 := Tryd.underlying30
 have HB := zA (yG w.heap.size w)
 have H : (if (-99999999) ≤ a0_0 then (if a0_0 ≤ 99999999 then (if (-8) ≤ a0_1 then (if a0_1 ≤ 8 then (if (Int.tmod a0_0 10) = 0 then (some (a0_0 == 0 && (a0_1 == 0))) else (some true)) else (some false)) else (some false)) else (some false)) else (some false)) = some r := h
 clear h
 by_cases c2 : (-99999999) ≤ a0_0
 ·rw [if_pos c2] at H
  have c2b0 : decide ((-99999999) ≤ a0_0) = true := yD c2
  clear c2
  by_cases c3 : a0_0 ≤ 99999999
  ·rw [if_pos c3] at H
   have c3b0 : decide (a0_0 ≤ 99999999) = true := yD c3
   clear c3
   by_cases c4 : (-8) ≤ a0_1
   ·rw [if_pos c4] at H
    have c4b0 : decide ((-8) ≤ a0_1) = true := yD c4
    clear c4
    by_cases c5 : a0_1 ≤ 8
    ·rw [if_pos c5] at H
     have c5b0 : decide (a0_1 ≤ 8) = true := yD c5
     clear c5
     by_cases c6 : (Int.tmod a0_0 10) = 0
     ·rw [if_pos c6] at H
      have c6b0 : ((Int.tmod a0_0 10) == 0) = true := beq_iff_eq.mpr c6
      have c6b1 : ((Int.tmod a0_0 10) != 0) = false := bne_eq_false_iff_eq.mpr c6
      clear c6
      obtain rfl := yF H
      go_enter Tryd.func35, Tryd.ntmps35
      go_wp2_with (first | ((with_reducible refine zT (N := 1) rfl ?_); refine zW ?hg (N := 1) ?hd (cs := #[.int .i64 a0_0, .int .i64 a0_1]) (t := 30) ?hr ?_; (case hd => rfl); (case hg => rfl); (case hr => first | (go_simp; done) | (go_simp; rfl)); intro gb311 hg w7 hbox hb; have BK311 := zA (hbox); have GW311 := zA ((by rw [hg]; exact (zR apA) : w.heap.size ≤ gb311)); have GE311 := zA ((by rw [hg]; exact (zR apA) : w.heap.size ≤ gb311)); replace HB := zA (zQ apA hb); clear hb hbox hg; obtain ⟨hcz8_0, hcz8_1, hfz8_0, hfz8_1⟩ := zb2 BK311.out))
      go_ret
      exact ⟨apE, by repeat (first | (with_reducible first | exact HB.out | apply zG | apply zE | apply zF | refine zH ?_ GE311.out) | exact HB.out)⟩
     ·rw [if_neg c6] at H
      have c6b0 : ((Int.tmod a0_0 10) == 0) = false := beq_eq_false_iff_ne.mpr c6
      have c6b1 : ((Int.tmod a0_0 10) != 0) = true := bne_iff_ne.mpr c6
      obtain rfl := yF H
      go_enter Tryd.func35, Tryd.ntmps35
      go_wp2_with (first | ((with_reducible refine zT (N := 1) rfl ?_); refine zW ?hg (N := 1) ?hd (cs := #[.int .i64 a0_0, .int .i64 a0_1]) (t := 30) ?hr ?_; (case hd => rfl); (case hg => rfl); (case hr => first | (go_simp; done) | (go_simp; rfl)); intro gb311 hg w9 hbox hb; have BK311 := zA (hbox); have GW311 := zA ((by rw [hg]; exact (zR apA) : w.heap.size ≤ gb311)); have GE311 := zA ((by rw [hg]; exact (zR apA) : w.heap.size ≤ gb311)); replace HB := zA (zQ apA hb); clear hb hbox hg; obtain ⟨hcz10_0, hcz10_1, hfz10_0, hfz10_1⟩ := zb2 BK311.out))
      go_ret
      exact ⟨apE, by repeat (first | (with_reducible first | exact HB.out | apply zG | apply zE | apply zF | refine zH ?_ GE311.out) | exact HB.out)⟩
    ·rw [if_neg c5] at H
     have c5b0 : decide (a0_1 ≤ 8) = false := decide_eq_false c5
     clear c5
     obtain rfl := yF H
     go_enter Tryd.func35, Tryd.ntmps35
     go_wp2_with (first | ((with_reducible refine zT (N := 1) rfl ?_); refine zW ?hg (N := 1) ?hd (cs := #[.int .i64 a0_0, .int .i64 a0_1]) (t := 30) ?hr ?_; (case hd => rfl); (case hg => rfl); (case hr => first | (go_simp; done) | (go_simp; rfl)); intro gb311 hg w11 hbox hb; have BK311 := zA (hbox); have GW311 := zA ((by rw [hg]; exact (zR apA) : w.heap.size ≤ gb311)); have GE311 := zA ((by rw [hg]; exact (zR apA) : w.heap.size ≤ gb311)); replace HB := zA (zQ apA hb); clear hb hbox hg; obtain ⟨hcz12_0, hcz12_1, hfz12_0, hfz12_1⟩ := zb2 BK311.out))
     go_ret
     exact ⟨apE, by repeat (first | (with_reducible first | exact HB.out | apply zG | apply zE | apply zF | refine zH ?_ GE311.out) | exact HB.out)⟩
   ·rw [if_neg c4] at H
    have c4b0 : decide ((-8) ≤ a0_1) = false := decide_eq_false c4
    clear c4
    obtain rfl := yF H
    go_enter Tryd.func35, Tryd.ntmps35
    go_wp2_with (first | ((with_reducible refine zT (N := 1) rfl ?_); refine zW ?hg (N := 1) ?hd (cs := #[.int .i64 a0_0, .int .i64 a0_1]) (t := 30) ?hr ?_; (case hd => rfl); (case hg => rfl); (case hr => first | (go_simp; done) | (go_simp; rfl)); intro gb311 hg w13 hbox hb; have BK311 := zA (hbox); have GW311 := zA ((by rw [hg]; exact (zR apA) : w.heap.size ≤ gb311)); have GE311 := zA ((by rw [hg]; exact (zR apA) : w.heap.size ≤ gb311)); replace HB := zA (zQ apA hb); clear hb hbox hg; obtain ⟨hcz14_0, hcz14_1, hfz14_0, hfz14_1⟩ := zb2 BK311.out))
    go_ret
    exact ⟨apE, by repeat (first | (with_reducible first | exact HB.out | apply zG | apply zE | apply zF | refine zH ?_ GE311.out) | exact HB.out)⟩
  ·rw [if_neg c3] at H
   have c3b0 : decide (a0_0 ≤ 99999999) = false := decide_eq_false c3
   clear c3
   obtain rfl := yF H
   go_enter Tryd.func35, Tryd.ntmps35
   go_wp2_with (first | ((with_reducible refine zT (N := 1) rfl ?_); refine zW ?hg (N := 1) ?hd (cs := #[.int .i64 a0_0, .int .i64 a0_1]) (t := 30) ?hr ?_; (case hd => rfl); (case hg => rfl); (case hr => first | (go_simp; done) | (go_simp; rfl)); intro gb311 hg w15 hbox hb; have BK311 := zA (hbox); have GW311 := zA ((by rw [hg]; exact (zR apA) : w.heap.size ≤ gb311)); have GE311 := zA ((by rw [hg]; exact (zR apA) : w.heap.size ≤ gb311)); replace HB := zA (zQ apA hb); clear hb hbox hg; obtain ⟨hcz16_0, hcz16_1, hfz16_0, hfz16_1⟩ := zb2 BK311.out))
   go_ret
   exact ⟨apE, by repeat (first | (with_reducible first | exact HB.out | apply zG | apply zE | apply zF | refine zH ?_ GE311.out) | exact HB.out)⟩
 ·rw [if_neg c2] at H
  have c2b0 : decide ((-99999999) ≤ a0_0) = false := decide_eq_false c2
  clear c2
  obtain rfl := yF H
  go_enter Tryd.func35, Tryd.ntmps35
  go_wp2_with (first | ((with_reducible refine zT (N := 1) rfl ?_); refine zW ?hg (N := 1) ?hd (cs := #[.int .i64 a0_0, .int .i64 a0_1]) (t := 30) ?hr ?_; (case hd => rfl); (case hg => rfl); (case hr => first | (go_simp; done) | (go_simp; rfl)); intro gb311 hg w17 hbox hb; have BK311 := zA (hbox); have GW311 := zA ((by rw [hg]; exact (zR apA) : w.heap.size ≤ gb311)); have GE311 := zA ((by rw [hg]; exact (zR apA) : w.heap.size ≤ gb311)); replace HB := zA (zQ apA hb); clear hb hbox hg; obtain ⟨hcz18_0, hcz18_1, hfz18_0, hfz18_1⟩ := zb2 BK311.out))
  go_ret
  exact ⟨apE, by repeat (first | (with_reducible first | exact HB.out | apply zG | apply zE | apply zF | refine zH ?_ GE311.out) | exact HB.out)⟩

end Go.Proofs.YtoajejdicfabmaaDoor.Q
