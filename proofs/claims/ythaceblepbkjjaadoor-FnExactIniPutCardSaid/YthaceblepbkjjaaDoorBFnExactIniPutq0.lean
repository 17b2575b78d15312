-- laid by a program of this session (wip/tools) out of the translation; Lean checks it
import Derived.Test.YthaceblepbkjjaaDoorProg
import Derived.Test.YthaceblepbkjjaaDoorBFnExactIniPutX
import Derived.Below
import Derived.Deep.Draws
import Derived.Deep.AppendLies
import Derived.Maps.AppendAt
import Derived.OwnWalk
import Derived.Laws.BytesArg
import Derived.Laws.MakeOwn
import Derived.Laws.OwnMore
import Derived.Deep.OwnRows
import Derived.Tactics
import Derived.Lib.ConvBytes
import Derived.Laws.Slices
import Derived.WalkKit
import Derived.KernelRfl
import Derived.RowKit3
import Derived.Deep.LoopGhost
import Derived.Deep.QuietTactic
import Derived.BigQuiet
import Derived.WideLaws
import Derived.Deep.DeepCutAuto
import Derived.Deep.CutBlock
import Derived.Deep.RegionHeld3
import Derived.Laws.Rows
import Derived.Lib.AppendStr
import Derived.ArgAppend
import Derived.Laws.IdiomCopy
import Derived.OrdersHeld
import Derived.Laws.BitsLemmas
import Derived.RowKit
import Derived.Test.YthaceblepbkjjaaDoorBFnExactIniPutWWords
import Derived.Test.YthaceblepbkjjaaDoorBFnExactIniPutWLast
import Derived.Test.YthaceblepbkjjaaDoorBFnExactIniPutWTab
import Derived.Test.YthaceblepbkjjaaDoorBFnExactIniPutWFour
import Derived.Test.YthaceblepbkjjaaDoorBFnExactIniPutWQPut
import Derived.Test.YthaceblepbkjjaaDoorBFnExactIniPutWApart
import Derived.Test.YthaceblepbkjjaaDoorBFnExactIniPutWArr
import Derived.Test.YthaceblepbkjjaaDoorBFnExactIniPutWZeros
import Derived.Test.YthaceblepbkjjaaDoorBFnExactIniPutWFoot
import Derived.Test.YthaceblepbkjjaaDoorBFnExactIniPutWKept
import Derived.Test.YthaceblepbkjjaaDoorBFnExactIniPutWShare
import Derived.Test.YthaceblepbkjjaaDoorBFnExactIniPutWN
import Derived.Test.YthaceblepbkjjaaDoorBFnExactIniPutWFootNe
import Derived.Test.YthaceblepbkjjaaDoorBFnExactIniPutWAt
import Derived.Test.YthaceblepbkjjaaDoorBFnExactIniPutWEqStruct
import Derived.Test.YthaceblepbkjjaaDoorBFnExactIniPutWRepsOne
import Derived.Test.YthaceblepbkjjaaDoorBFnExactIniPutWInv
import Derived.Test.YthaceblepbkjjaaDoorBFnExactIniPutWInvWords
import Derived.Test.YthaceblepbkjjaaDoorBFnExactIniPutWGuard
import Derived.Test.YthaceblepbkjjaaDoorBFnExactIniPutWNEv
import Derived.Test.YthaceblepbkjjaaDoorBFnExactIniPutWMore
import Derived.Test.YthaceblepbkjjaaDoorSh
import Derived.Lib.AppendIntMem
import Derived.Lib.AtoiErrMem
namespace Go.Proofs.YthaceblepbkjjaaDoor.Q
open Go.RowKit Go.Proofs.YthaceblepbkjjaaDoorW.PrintWords Go.Proofs.YthaceblepbkjjaaDoorW.PrintLast Go.Proofs.YthaceblepbkjjaaDoorW.PrintMore Go.Proofs.YthaceblepbkjjaaDoorX
attribute [local go_sem] max2_int min2_int max_two min_two max_three min_three max_four min_four   -- for this text's walks alone
set_option linter.unusedVariables false
set_option linter.unusedSimpArgs false



abbrev zA := @Aside0.mk
abbrev zB := @blk_drewN
abbrev zC := @blk_alloc
abbrev zD := @blk_drew
abbrev zE := @pw_below_drewN
abbrev zF := @below_drew1
abbrev zG := @below_alloc
abbrev zH := @below_set
abbrev zJ := @blk_cell
abbrev zK := @List.setIfInBounds_toArray
abbrev zL := @List.set_cons_zero
abbrev zM := @List.set_cons_succ
abbrev zN := @blk_below
abbrev zP := @below_step
abbrev zQ := @below_size
abbrev zR := @World.block_lt_of_cell?
abbrev zS := @gate_dst
abbrev zT := @gate_callee
abbrev zV := @gate_store
abbrev zW := @box_event
abbrev zX := @store_event
abbrev zZ := @List.map_toArray
abbrev yA := @List.length_drop
abbrev yB := @List.length_take
abbrev yC := @List.map_cons
abbrev yD := @List.map_nil
abbrev yE := @decide_eq_true
abbrev yF := @of_decide_eq_true
abbrev yG := @Option.some.inj
abbrev yH := @Below.refl
abbrev yJ := @Nat.le_refl
theorem apH {p : Prop} (h : p := by repeat (first | (with_reducible first | exact HB.out | apply zG | apply zE | apply zF | refine zH ?_ GE261.out | refine zH ?_ GE262.out) | exact HB.out)) : p := h
theorem apT {p : Prop} (h : p := by repeat (first | (with_reducible first | exact HB.out | apply zG | apply zE | apply zF | refine zH ?_ GE326.out | refine zH ?_ GE334.out) | exact HB.out)) : p := h
theorem apW {p : Prop} (h : p := by repeat (first | (with_reducible first | exact HB.out | apply zG | apply zE | apply zF | refine zH ?_ GE375.out | refine zH ?_ GE399.out) | exact HB.out)) : p := h
theorem apX {p : Prop} (h : p := by repeat (first | (with_reducible first | exact HB.out | apply zG | apply zE | apply zF | refine zH ?_ GE367.out | refine zH ?_ GE368.out) | exact HB.out)) : p := h
theorem apK {p : Prop} (h : p := by repeat (first | (with_reducible first | exact HB.out | apply zG | apply zE | apply zF | refine zH ?_ GE166.out) | exact HB.out)) : p := h
theorem apL {p : Prop} (h : p := by repeat (first | (with_reducible first | exact HB.out | apply zG | apply zE | apply zF | refine zH ?_ GE326.out) | exact HB.out)) : p := h
theorem apN {p : Prop} (h : p := by repeat (first | (with_reducible first | exact HB.out | apply zG | apply zE | apply zF | refine zH ?_ GE367.out) | exact HB.out)) : p := h
theorem apP {p : Prop} (h : p := by repeat (first | (with_reducible first | exact HB.out | apply zG | apply zE | apply zF | refine zH ?_ GE294.out) | exact HB.out)) : p := h
theorem apQ {p : Prop} (h : p := by repeat (first | (with_reducible first | exact HB.out | apply zG | apply zE | apply zF | refine zH ?_ GE345.out) | exact HB.out)) : p := h
theorem apS {p : Prop} (h : p := by repeat (first | (with_reducible first | exact HB.out | apply zG | apply zE | apply zF | refine zH ?_ GE211.out) | exact HB.out)) : p := h
theorem apU {p : Prop} (h : p := by repeat (first | (with_reducible first | exact HB.out | apply zG | apply zE | apply zF | refine zH ?_ GE375.out) | exact HB.out)) : p := h
theorem apV {p : Prop} (h : p := by repeat (first | (with_reducible first | exact HB.out | apply zG | apply zE | apply zF | refine zH ?_ GE177.out) | exact HB.out)) : p := h
theorem apE {p : Prop} (h : p := by (try simp only [zZ, yC, yD]); first | done | rfl | (simp only [yA, yB]; rfl)) : p := h
theorem apA {p : Prop} (h : p := by repeat (first | (with_reducible first | exact HB.out | apply zG | apply zE | apply zF) | exact HB.out)) : p := h
theorem apG {p : Prop} (h : p := by (with_reducible repeat (first | refine zB ?_ _ | refine zD ?_ | refine zC ?_ _)); exact BK262.out) : p := h
theorem apI {p : Prop} (h : p := by (with_reducible repeat (first | refine zB ?_ _ | refine zD ?_ | refine zC ?_ _)); exact BK261.out) : p := h
theorem apJ {p : Prop} (h : p := by (with_reducible repeat (first | refine zB ?_ _ | refine zD ?_ | refine zC ?_ _)); exact BK367.out) : p := h
theorem apM {p : Prop} (h : p := by (with_reducible repeat (first | refine zB ?_ _ | refine zD ?_ | refine zC ?_ _)); exact BK326.out) : p := h
theorem apO {p : Prop} (h : p := by (with_reducible repeat (first | refine zB ?_ _ | refine zD ?_ | refine zC ?_ _)); exact BK345.out) : p := h
theorem apR {p : Prop} (h : p := by (with_reducible repeat (first | refine zB ?_ _ | refine zD ?_ | refine zC ?_ _)); exact BK294.out) : p := h
theorem apD {p : Prop} (h : p := by first | rfl | (simp [errW_none, errW_some] <;> rfl) | (simp [*, errW_none, errW_some] <;> rfl)) : p := h
theorem apC {p : Prop} (h : p := by first | rfl | (simp; done) | (simp [*]; done) | (simp [isEmpty_bne]; done)) : p := h
theorem apF {p : Prop} (h : p := by repeat (first | exact Drawn0.refl _ | apply Drawn0.step)) : p := h
theorem apB {p : Prop} (h : p := by first | (with_reducible assumption) | assumption) : p := h
theorem vwR {a p : Prop} (x : a) (h : a → p := by (intro x_; (with_reducible repeat (first | apply Kd.R_alloc | apply Kd.R_drewN | apply Kd.R_drew)); exact x_)) : p := h x
theorem vc {a p : Prop} (x : a) (h : a → p := by (intro x_; repeat (first | exact x_ | (with_reducible refine Kd.C_alloc ?_ _) | (with_reducible refine Kd.C_drewN ?_ _) | (with_reducible refine Kd.C_drew ?_)))) : p := h x
abbrev zn (v : Value) (k_ : Nat) : Prop := some k_ ≠ v.ownBlock
theorem zb1 {w : World} {g : Nat} {t : TypeId} {c0 : Value} (h : w.heap[g]? = some (.cells #[c0] t (0, 0))) : w.cell? ⟨g, 0, none⟩ = some c0 ∧ w.frozen? ⟨g, 0, none⟩ = false := by
  have hc := @blk_cell w g t #[c0] h
  have hf := @blk_frozen w g t #[c0] h
  exact ⟨hc 0, hf 0⟩
theorem zb2 {w : World} {g : Nat} {t : TypeId} {c0 c1 : Value} (h : w.heap[g]? = some (.cells #[c0, c1] t (0, 0))) : w.cell? ⟨g, 0, none⟩ = some c0 ∧ w.cell? ⟨g, 1, none⟩ = some c1 ∧ w.frozen? ⟨g, 0, none⟩ = false ∧ w.frozen? ⟨g, 1, none⟩ = false := by
  have hc := @blk_cell w g t #[c0, c1] h
  have hf := @blk_frozen w g t #[c0, c1] h
  exact ⟨hc 0, hc 1, hf 0, hf 1⟩
theorem zb6 {w : World} {g : Nat} {t : TypeId} {c0 c1 c2 c3 c4 c5 : Value} (h : w.heap[g]? = some (.cells #[c0, c1, c2, c3, c4, c5] t (0, 0))) : w.cell? ⟨g, 0, none⟩ = some c0 ∧ w.cell? ⟨g, 1, none⟩ = some c1 ∧ w.cell? ⟨g, 2, none⟩ = some c2 ∧ w.cell? ⟨g, 3, none⟩ = some c3 ∧ w.cell? ⟨g, 4, none⟩ = some c4 ∧ w.cell? ⟨g, 5, none⟩ = some c5 ∧ w.frozen? ⟨g, 0, none⟩ = false ∧ w.frozen? ⟨g, 1, none⟩ = false ∧ w.frozen? ⟨g, 2, none⟩ = false ∧ w.frozen? ⟨g, 3, none⟩ = false ∧ w.frozen? ⟨g, 4, none⟩ = false ∧ w.frozen? ⟨g, 5, none⟩ = false := by
  have hc := @blk_cell w g t #[c0, c1, c2, c3, c4, c5] h
  have hf := @blk_frozen w g t #[c0, c1, c2, c3, c4, c5] h
  exact ⟨hc 0, hc 1, hc 2, hc 3, hc 4, hc 5, hf 0, hf 1, hf 2, hf 3, hf 4, hf 5⟩
def errW : Option Int → Value
 | none => .nilIface
 | some c => .iface 0 (.int .i64 c)
theorem errW_none : errW none = .nilIface := rfl
theorem errW_some (c : Int) : errW (some c) = .iface 0 (.int .i64 c) := rfl

theorem info5 : (Tryd.prog.info? 5).map (fun i => (i.zero, i.size, i.bytes)) = some (some (.int .u8 0), 1, 1) := by kernel_rfl
theorem info9 : (Tryd.prog.info? 9).map (fun i => (i.zero, i.size, i.bytes)) = some (some (.string ⟨#[]⟩), 1, 16) := by kernel_rfl
theorem info34 : (Tryd.prog.info? 34).map (fun i => (i.zero, i.size, i.bytes)) = some (some (.agg #[(.int .i64 0), (.int .i64 0), (.int .i64 0), (.string ⟨#[]⟩), (.slice none 0 0), (.slice none 0 0)]), 6, 88) := by kernel_rfl
-- the values' own types
structure S23 where
 f0 : Int
 f1 : Int
def z23 : S23 := ⟨(0 : Int), (0 : Int)⟩
def k23 : Kd S23 := Kd.iso (Kd.pair (Kd.int .i64) (Kd.int .i64)) (fun x : S23 => (x.f0, x.f1))
theorem k23_open {w : World} {x : S23} {cs : List Value} (h : k23.K w x cs) : cs = [.int .i64 x.f0, .int .i64 x.f1] := by
 obtain ⟨_, _, rfl, rfl, rfl⟩ := h
 exact rfl
theorem k23_openM {w : World} {base : Nat} {ok : Nat → Prop} {x : S23} {cs : List Value} (h : k23.M w base ok x cs) : cs = [.int .i64 x.f0, .int .i64 x.f1] := by
 obtain ⟨_, _, rfl, rfl, rfl⟩ := h
 exact rfl
theorem k23_mk (w : World) (x : S23)  : k23.K w x [.int .i64 x.f0, .int .i64 x.f1] := ⟨[.int .i64 x.f0], [.int .i64 x.f1], rfl, rfl, rfl⟩
theorem k23_mkM (w : World) (base : Nat) (ok : Nat → Prop) (x : S23)  : k23.M w base ok x [.int .i64 x.f0, .int .i64 x.f1] := ⟨[.int .i64 x.f0], [.int .i64 x.f1], rfl, rfl, rfl⟩
def rd_T23 (xs : List S23) (i : Int) : S23 := xs.getD i.toNat z23
theorem at_T23 {w : World} {A : Option Addr} {n : Nat} {xs : List S23} (h : Kd.C k23 w A n xs) (i : Int) (h0 : 0 ≤ i) (h1 : i < n) : ∃ ad , A = some ad ∧ w.cell? (ad.add (i.toNat * 2)) = some (.int .i64 (rd_T23 xs i).f0) ∧ w.cell? ⟨(ad.add (i.toNat * 2)).block, (ad.add (i.toNat * 2)).off + 1, none⟩ = some (.int .i64 (rd_T23 xs i).f1) := by
 obtain ⟨ad, c, e, _, hK, hc0⟩ := Kd.C_get h z23 i h0 h1
 have hc : ∀ j u, c[j]? = some u → w.cell? (ad.add (i.toNat * 2 + j)) = some u := hc0
 obtain rfl := k23_open hK
 exact ⟨ad, e, hc 0 _ rfl, by rw [← add_field _ _ 1 (by omega)]; exact hc 1 _ rfl⟩

def rd_L3 (xs : List (List ByteArray)) (i : Int) : (List ByteArray) := xs.getD i.toNat ([] : List ByteArray)
theorem at_L3 {w : World} {A : Option Addr} {n : Nat} {xs : List (List ByteArray)} (h : Kd.C (Kd.slice 9 Kd.string) w A n xs) (i : Int) (h0 : 0 ≤ i) (h1 : i < n) : ∃ ad A0 c0, A = some ad ∧ w.cell? (ad.add i.toNat) = some (.slice A0 (rd_L3 xs i).length c0) ∧ (rd_L3 xs i).length ≤ c0 ∧ Kd.string.C w A0 (rd_L3 xs i).length (rd_L3 xs i) := by
 obtain ⟨ad, c, e, _, hK, hc0⟩ := Kd.C_get h ([] : List ByteArray) i h0 h1
 have hc : ∀ j u, c[j]? = some u → w.cell? (ad.add (i.toNat * 1 + j)) = some u := hc0
 obtain ⟨A0, c0, rfl, l0, g0⟩ := hK
 exact ⟨ad, A0, c0, e, by have hq := hc 0 _ rfl; rwa [Nat.mul_one, Nat.add_zero] at hq, l0, g0⟩

structure S27 where
 f0 : Int
 f1 : S23
 f2 : ByteArray
 f3 : (List S27)
 f4 : (List ByteArray)
def z27 : S27 := ⟨(0 : Int), z23, (⟨#[]⟩ : ByteArray), ([] : List S27), ([] : List ByteArray)⟩
def F27 (d : Kd S27) : Kd S27 := Kd.iso (Kd.pair (Kd.int .i64) (Kd.pair k23 (Kd.pair Kd.string (Kd.pair (Kd.slice 27 d) (Kd.slice 9 Kd.string))))) (fun x : S27 => (x.f0, x.f1, x.f2, x.f3, x.f4))
theorem mono27 : Kd.Mono F27 := Kd.mono_iso _ (Kd.mono_pair (Kd.mono_const _) (Kd.mono_pair (Kd.mono_const _) (Kd.mono_pair (Kd.mono_const _) (Kd.mono_pair (Kd.mono_slice 27 Kd.mono_id) (Kd.mono_const _)))))
theorem sub27 : Kd.Sub F27 [9, 27] := Kd.sub_iso _ (Kd.sub_pair (Kd.sub_const _ (by decide)) (Kd.sub_pair (Kd.sub_const _ (by decide)) (Kd.sub_pair (Kd.sub_const _ (by decide)) (Kd.sub_pair (Kd.sub_slice 27 (by decide) Kd.sub_id) (Kd.sub_const _ (by decide))))))
theorem sz27 : ∀ n, (Kd.upto F27 6 [9, 27] n).sz = 6 := Kd.upto_sz (fun _ => rfl)
def k27 : Kd S27 := Kd.fix F27 6 [9, 27] sz27 (Kd.upto_E sub27)
theorem k27_open {w : World} {x : S27} {cs : List Value} (h : k27.K w x cs) : ∃ A4 c4 A5 c5, cs = [.int .i64 x.f0, .int .i64 x.f1.f0, .int .i64 x.f1.f1, .string x.f2, .slice A4 x.f3.length c4, .slice A5 x.f4.length c5] ∧ x.f3.length ≤ c4 ∧ k27.C w A4 x.f3.length x.f3 ∧ x.f4.length ≤ c5 ∧ Kd.string.C w A5 x.f4.length x.f4 := by
 obtain ⟨n, h⟩ := h
 cases n with
 | zero => exact h.elim
 | succ n =>
  obtain ⟨_, _, rfl, rfl, ⟨_, _, rfl, s1, ⟨_, _, rfl, rfl, ⟨_, _, rfl, ⟨A4, c4, rfl, l4, g4⟩, ⟨A5, c5, rfl, l5, g5⟩⟩⟩⟩⟩ := h
  obtain rfl := k23_open s1
  exact ⟨A4, c4, A5, c5, rfl, l4, Kd.fix_C g4, l5, g5⟩
theorem k27_openM {w : World} {base : Nat} {ok : Nat → Prop} {x : S27} {cs : List Value} (h : k27.M w base ok x cs) : ∃ v4 v5, cs = [.int .i64 x.f0, .int .i64 x.f1.f0, .int .i64 x.f1.f1, .string x.f2, v4, v5] ∧ k27.R 27 w base ok v4 x.f3 ∧ Kd.string.R 9 w base ok v5 x.f4 := by
 obtain ⟨n, h⟩ := h
 cases n with
 | zero => exact h.elim
 | succ n =>
  obtain ⟨_, _, rfl, rfl, ⟨_, _, rfl, s1, ⟨_, _, rfl, rfl, ⟨_, _, rfl, ⟨v4, rfl, g4⟩, ⟨v5, rfl, g5⟩⟩⟩⟩⟩ := h
  obtain rfl := k23_openM s1
  exact ⟨v4, v5, rfl, Kd.fix_R g4, g5⟩
theorem k27_mk (w : World) (x : S27) {A4 : Option Addr} {c4 : Nat} (l4 : x.f3.length ≤ c4) (g4 : k27.C w A4 x.f3.length x.f3) {A5 : Option Addr} {c5 : Nat} (l5 : x.f4.length ≤ c5) (g5 : Kd.string.C w A5 x.f4.length x.f4) : k27.K w x [.int .i64 x.f0, .int .i64 x.f1.f0, .int .i64 x.f1.f1, .string x.f2, .slice A4 x.f3.length c4, .slice A5 x.f4.length c5] := by
 obtain ⟨n4, q4⟩ := Kd.fix_C_back mono27 g4
 have r4 := Kd.upto_C_le mono27 sz27 (show n4 ≤ n4 by omega) q4
 exact ⟨n4 + 1, ⟨[.int .i64 x.f0], [.int .i64 x.f1.f0, .int .i64 x.f1.f1, .string x.f2, .slice A4 x.f3.length c4, .slice A5 x.f4.length c5], rfl, rfl, ⟨[.int .i64 x.f1.f0, .int .i64 x.f1.f1], [.string x.f2, .slice A4 x.f3.length c4, .slice A5 x.f4.length c5], rfl, (k23_mk w x.f1 ), ⟨[.string x.f2], [.slice A4 x.f3.length c4, .slice A5 x.f4.length c5], rfl, rfl, ⟨[.slice A4 x.f3.length c4], [.slice A5 x.f4.length c5], rfl, ⟨A4, c4, rfl, l4, r4⟩, ⟨A5, c5, rfl, l5, g5⟩⟩⟩⟩⟩⟩
theorem k27_mkM (w : World) (base : Nat) (ok : Nat → Prop) (x : S27) {v4 : Value} (g4 : k27.R 27 w base ok v4 x.f3) {v5 : Value} (g5 : Kd.string.R 9 w base ok v5 x.f4) : k27.M w base ok x [.int .i64 x.f0, .int .i64 x.f1.f0, .int .i64 x.f1.f1, .string x.f2, v4, v5] := by
 obtain ⟨n4, q4⟩ := Kd.fix_R_back mono27 g4
 have r4 := Kd.upto_R_le mono27 sz27 (show n4 ≤ n4 by omega) q4
 exact ⟨n4 + 1, ⟨[.int .i64 x.f0], [.int .i64 x.f1.f0, .int .i64 x.f1.f1, .string x.f2, v4, v5], rfl, rfl, ⟨[.int .i64 x.f1.f0, .int .i64 x.f1.f1], [.string x.f2, v4, v5], rfl, (k23_mkM w base ok x.f1 ), ⟨[.string x.f2], [v4, v5], rfl, rfl, ⟨[v4], [v5], rfl, ⟨v4, rfl, r4⟩, ⟨v5, rfl, g5⟩⟩⟩⟩⟩⟩
def rd_T27 (xs : List S27) (i : Int) : S27 := xs.getD i.toNat z27
theorem at_T27 {w : World} {A : Option Addr} {n : Nat} {xs : List S27} (h : Kd.C k27 w A n xs) (i : Int) (h0 : 0 ≤ i) (h1 : i < n) : ∃ ad A4 c4 A5 c5, A = some ad ∧ w.cell? (ad.add (i.toNat * 6)) = some (.int .i64 (rd_T27 xs i).f0) ∧ w.cell? ⟨(ad.add (i.toNat * 6)).block, (ad.add (i.toNat * 6)).off + 1, none⟩ = some (.int .i64 (rd_T27 xs i).f1.f0) ∧ w.cell? ⟨(ad.add (i.toNat * 6)).block, (ad.add (i.toNat * 6)).off + 2, none⟩ = some (.int .i64 (rd_T27 xs i).f1.f1) ∧ w.cell? ⟨(ad.add (i.toNat * 6)).block, (ad.add (i.toNat * 6)).off + 3, none⟩ = some (.string (rd_T27 xs i).f2) ∧ w.cell? ⟨(ad.add (i.toNat * 6)).block, (ad.add (i.toNat * 6)).off + 4, none⟩ = some (.slice A4 (rd_T27 xs i).f3.length c4) ∧ w.cell? ⟨(ad.add (i.toNat * 6)).block, (ad.add (i.toNat * 6)).off + 5, none⟩ = some (.slice A5 (rd_T27 xs i).f4.length c5) ∧ (rd_T27 xs i).f3.length ≤ c4 ∧ k27.C w A4 (rd_T27 xs i).f3.length (rd_T27 xs i).f3 ∧ (rd_T27 xs i).f4.length ≤ c5 ∧ Kd.string.C w A5 (rd_T27 xs i).f4.length (rd_T27 xs i).f4 := by
 obtain ⟨ad, c, e, _, hK, hc0⟩ := Kd.C_get h z27 i h0 h1
 have hc : ∀ j u, c[j]? = some u → w.cell? (ad.add (i.toNat * 6 + j)) = some u := hc0
 obtain ⟨A4, c4, A5, c5, rfl, l4, g4, l5, g5⟩ := k27_open hK
 exact ⟨ad, A4, c4, A5, c5, e, hc 0 _ rfl, by rw [← add_field _ _ 1 (by omega)]; exact hc 1 _ rfl, by rw [← add_field _ _ 2 (by omega)]; exact hc 2 _ rfl, by rw [← add_field _ _ 3 (by omega)]; exact hc 3 _ rfl, by rw [← add_field _ _ 4 (by omega)]; exact hc 4 _ rfl, by rw [← add_field _ _ 5 (by omega)]; exact hc 5 _ rfl, l4, g4, l5, g5⟩

structure S31 where
 f0 : Int
 f1 : Int
def z31 : S31 := ⟨(0 : Int), (0 : Int)⟩
def k31 : Kd S31 := Kd.iso (Kd.pair (Kd.int .i64) (Kd.int .i64)) (fun x : S31 => (x.f0, x.f1))
theorem k31_open {w : World} {x : S31} {cs : List Value} (h : k31.K w x cs) : cs = [.int .i64 x.f0, .int .i64 x.f1] := by
 obtain ⟨_, _, rfl, rfl, rfl⟩ := h
 exact rfl
theorem k31_openM {w : World} {base : Nat} {ok : Nat → Prop} {x : S31} {cs : List Value} (h : k31.M w base ok x cs) : cs = [.int .i64 x.f0, .int .i64 x.f1] := by
 obtain ⟨_, _, rfl, rfl, rfl⟩ := h
 exact rfl
theorem k31_mk (w : World) (x : S31)  : k31.K w x [.int .i64 x.f0, .int .i64 x.f1] := ⟨[.int .i64 x.f0], [.int .i64 x.f1], rfl, rfl, rfl⟩
theorem k31_mkM (w : World) (base : Nat) (ok : Nat → Prop) (x : S31)  : k31.M w base ok x [.int .i64 x.f0, .int .i64 x.f1] := ⟨[.int .i64 x.f0], [.int .i64 x.f1], rfl, rfl, rfl⟩
def rd_T31 (xs : List S31) (i : Int) : S31 := xs.getD i.toNat z31
theorem at_T31 {w : World} {A : Option Addr} {n : Nat} {xs : List S31} (h : Kd.C k31 w A n xs) (i : Int) (h0 : 0 ≤ i) (h1 : i < n) : ∃ ad , A = some ad ∧ w.cell? (ad.add (i.toNat * 2)) = some (.int .i64 (rd_T31 xs i).f0) ∧ w.cell? ⟨(ad.add (i.toNat * 2)).block, (ad.add (i.toNat * 2)).off + 1, none⟩ = some (.int .i64 (rd_T31 xs i).f1) := by
 obtain ⟨ad, c, e, _, hK, hc0⟩ := Kd.C_get h z31 i h0 h1
 have hc : ∀ j u, c[j]? = some u → w.cell? (ad.add (i.toNat * 2 + j)) = some u := hc0
 obtain rfl := k31_open hK
 exact ⟨ad, e, hc 0 _ rfl, by rw [← add_field _ _ 1 (by omega)]; exact hc 1 _ rfl⟩

structure S34 where
 f0 : Int
 f1 : S31
 f2 : ByteArray
 f3 : (List S34)
 f4 : (List ByteArray)
def z34 : S34 := ⟨(0 : Int), z31, (⟨#[]⟩ : ByteArray), ([] : List S34), ([] : List ByteArray)⟩
def F34 (d : Kd S34) : Kd S34 := Kd.iso (Kd.pair (Kd.int .i64) (Kd.pair k31 (Kd.pair Kd.string (Kd.pair (Kd.slice 34 d) (Kd.slice 9 Kd.string))))) (fun x : S34 => (x.f0, x.f1, x.f2, x.f3, x.f4))
theorem mono34 : Kd.Mono F34 := Kd.mono_iso _ (Kd.mono_pair (Kd.mono_const _) (Kd.mono_pair (Kd.mono_const _) (Kd.mono_pair (Kd.mono_const _) (Kd.mono_pair (Kd.mono_slice 34 Kd.mono_id) (Kd.mono_const _)))))
theorem sub34 : Kd.Sub F34 [9, 34] := Kd.sub_iso _ (Kd.sub_pair (Kd.sub_const _ (by decide)) (Kd.sub_pair (Kd.sub_const _ (by decide)) (Kd.sub_pair (Kd.sub_const _ (by decide)) (Kd.sub_pair (Kd.sub_slice 34 (by decide) Kd.sub_id) (Kd.sub_const _ (by decide))))))
theorem sz34 : ∀ n, (Kd.upto F34 6 [9, 34] n).sz = 6 := Kd.upto_sz (fun _ => rfl)
def k34 : Kd S34 := Kd.fix F34 6 [9, 34] sz34 (Kd.upto_E sub34)
theorem k34_open {w : World} {x : S34} {cs : List Value} (h : k34.K w x cs) : ∃ A4 c4 A5 c5, cs = [.int .i64 x.f0, .int .i64 x.f1.f0, .int .i64 x.f1.f1, .string x.f2, .slice A4 x.f3.length c4, .slice A5 x.f4.length c5] ∧ x.f3.length ≤ c4 ∧ k34.C w A4 x.f3.length x.f3 ∧ x.f4.length ≤ c5 ∧ Kd.string.C w A5 x.f4.length x.f4 := by
 obtain ⟨n, h⟩ := h
 cases n with
 | zero => exact h.elim
 | succ n =>
  obtain ⟨_, _, rfl, rfl, ⟨_, _, rfl, s1, ⟨_, _, rfl, rfl, ⟨_, _, rfl, ⟨A4, c4, rfl, l4, g4⟩, ⟨A5, c5, rfl, l5, g5⟩⟩⟩⟩⟩ := h
  obtain rfl := k31_open s1
  exact ⟨A4, c4, A5, c5, rfl, l4, Kd.fix_C g4, l5, g5⟩
theorem k34_openM {w : World} {base : Nat} {ok : Nat → Prop} {x : S34} {cs : List Value} (h : k34.M w base ok x cs) : ∃ v4 v5, cs = [.int .i64 x.f0, .int .i64 x.f1.f0, .int .i64 x.f1.f1, .string x.f2, v4, v5] ∧ k34.R 34 w base ok v4 x.f3 ∧ Kd.string.R 9 w base ok v5 x.f4 := by
 obtain ⟨n, h⟩ := h
 cases n with
 | zero => exact h.elim
 | succ n =>
  obtain ⟨_, _, rfl, rfl, ⟨_, _, rfl, s1, ⟨_, _, rfl, rfl, ⟨_, _, rfl, ⟨v4, rfl, g4⟩, ⟨v5, rfl, g5⟩⟩⟩⟩⟩ := h
  obtain rfl := k31_openM s1
  exact ⟨v4, v5, rfl, Kd.fix_R g4, g5⟩
theorem k34_mk (w : World) (x : S34) {A4 : Option Addr} {c4 : Nat} (l4 : x.f3.length ≤ c4) (g4 : k34.C w A4 x.f3.length x.f3) {A5 : Option Addr} {c5 : Nat} (l5 : x.f4.length ≤ c5) (g5 : Kd.string.C w A5 x.f4.length x.f4) : k34.K w x [.int .i64 x.f0, .int .i64 x.f1.f0, .int .i64 x.f1.f1, .string x.f2, .slice A4 x.f3.length c4, .slice A5 x.f4.length c5] := by
 obtain ⟨n4, q4⟩ := Kd.fix_C_back mono34 g4
 have r4 := Kd.upto_C_le mono34 sz34 (show n4 ≤ n4 by omega) q4
 exact ⟨n4 + 1, ⟨[.int .i64 x.f0], [.int .i64 x.f1.f0, .int .i64 x.f1.f1, .string x.f2, .slice A4 x.f3.length c4, .slice A5 x.f4.length c5], rfl, rfl, ⟨[.int .i64 x.f1.f0, .int .i64 x.f1.f1], [.string x.f2, .slice A4 x.f3.length c4, .slice A5 x.f4.length c5], rfl, (k31_mk w x.f1 ), ⟨[.string x.f2], [.slice A4 x.f3.length c4, .slice A5 x.f4.length c5], rfl, rfl, ⟨[.slice A4 x.f3.length c4], [.slice A5 x.f4.length c5], rfl, ⟨A4, c4, rfl, l4, r4⟩, ⟨A5, c5, rfl, l5, g5⟩⟩⟩⟩⟩⟩
theorem k34_mkM (w : World) (base : Nat) (ok : Nat → Prop) (x : S34) {v4 : Value} (g4 : k34.R 34 w base ok v4 x.f3) {v5 : Value} (g5 : Kd.string.R 9 w base ok v5 x.f4) : k34.M w base ok x [.int .i64 x.f0, .int .i64 x.f1.f0, .int .i64 x.f1.f1, .string x.f2, v4, v5] := by
 obtain ⟨n4, q4⟩ := Kd.fix_R_back mono34 g4
 have r4 := Kd.upto_R_le mono34 sz34 (show n4 ≤ n4 by omega) q4
 exact ⟨n4 + 1, ⟨[.int .i64 x.f0], [.int .i64 x.f1.f0, .int .i64 x.f1.f1, .string x.f2, v4, v5], rfl, rfl, ⟨[.int .i64 x.f1.f0, .int .i64 x.f1.f1], [.string x.f2, v4, v5], rfl, (k31_mkM w base ok x.f1 ), ⟨[.string x.f2], [v4, v5], rfl, rfl, ⟨[v4], [v5], rfl, ⟨v4, rfl, r4⟩, ⟨v5, rfl, g5⟩⟩⟩⟩⟩⟩
def rd_T34 (xs : List S34) (i : Int) : S34 := xs.getD i.toNat z34
theorem at_T34 {w : World} {A : Option Addr} {n : Nat} {xs : List S34} (h : Kd.C k34 w A n xs) (i : Int) (h0 : 0 ≤ i) (h1 : i < n) : ∃ ad A4 c4 A5 c5, A = some ad ∧ w.cell? (ad.add (i.toNat * 6)) = some (.int .i64 (rd_T34 xs i).f0) ∧ w.cell? ⟨(ad.add (i.toNat * 6)).block, (ad.add (i.toNat * 6)).off + 1, none⟩ = some (.int .i64 (rd_T34 xs i).f1.f0) ∧ w.cell? ⟨(ad.add (i.toNat * 6)).block, (ad.add (i.toNat * 6)).off + 2, none⟩ = some (.int .i64 (rd_T34 xs i).f1.f1) ∧ w.cell? ⟨(ad.add (i.toNat * 6)).block, (ad.add (i.toNat * 6)).off + 3, none⟩ = some (.string (rd_T34 xs i).f2) ∧ w.cell? ⟨(ad.add (i.toNat * 6)).block, (ad.add (i.toNat * 6)).off + 4, none⟩ = some (.slice A4 (rd_T34 xs i).f3.length c4) ∧ w.cell? ⟨(ad.add (i.toNat * 6)).block, (ad.add (i.toNat * 6)).off + 5, none⟩ = some (.slice A5 (rd_T34 xs i).f4.length c5) ∧ (rd_T34 xs i).f3.length ≤ c4 ∧ k34.C w A4 (rd_T34 xs i).f3.length (rd_T34 xs i).f3 ∧ (rd_T34 xs i).f4.length ≤ c5 ∧ Kd.string.C w A5 (rd_T34 xs i).f4.length (rd_T34 xs i).f4 := by
 obtain ⟨ad, c, e, _, hK, hc0⟩ := Kd.C_get h z34 i h0 h1
 have hc : ∀ j u, c[j]? = some u → w.cell? (ad.add (i.toNat * 6 + j)) = some u := hc0
 obtain ⟨A4, c4, A5, c5, rfl, l4, g4, l5, g5⟩ := k34_open hK
 exact ⟨ad, A4, c4, A5, c5, e, hc 0 _ rfl, by rw [← add_field _ _ 1 (by omega)]; exact hc 1 _ rfl, by rw [← add_field _ _ 2 (by omega)]; exact hc 2 _ rfl, by rw [← add_field _ _ 3 (by omega)]; exact hc 3 _ rfl, by rw [← add_field _ _ 4 (by omega)]; exact hc 4 _ rfl, by rw [← add_field _ _ 5 (by omega)]; exact hc 5 _ rfl, l4, g4, l5, g5⟩

end Go.Proofs.YthaceblepbkjjaaDoor.Q

namespace Go.Proofs.YthaceblepbkjjaaDoor.Q
open Go.RowKit Go.Proofs.YthaceblepbkjjaaDoorW.PrintWords Go.Proofs.YthaceblepbkjjaaDoorW.PrintLast Go.Proofs.YthaceblepbkjjaaDoorW.PrintMore Go.Proofs.YthaceblepbkjjaaDoorX
attribute [local go_sem] max2_int min2_int max_two min_two max_three min_three max_four min_four   -- for this text's walks alone
set_option linter.unusedVariables false
set_option linter.unusedSimpArgs false

def impl_isLetter.f (a0 : Int) : Option (Bool) := if a0 ≥ 97 then (if a0 ≤ 122 then (some true) else (some (a0 == 95))) else (some (a0 == 95))
set_option maxHeartbeats 8000000 in
set_option maxRecDepth 100000 in
theorem impl_isLetter.calls (a0 : Int) (r : Bool) (w : World) (h : impl_isLetter.f a0 = some r) :
  Calls Tryd.prog 57 #[.int .u8 a0] w fun e w' => e = .returned (.bool r) ∧ Drawn0 w w' := by
 have H : (if a0 ≥ 97 then (if a0 ≤ 122 then (some true) else (some (a0 == 95))) else (some (a0 == 95))) = some r := h
 clear h
 by_cases c2 : a0 ≥ 97
 ·rw [if_pos c2] at H
  have c2b0 : decide (97 ≤ a0) = true := yE c2
  clear c2
  by_cases c3 : a0 ≤ 122
  ·rw [if_pos c3] at H
   have c3b0 : decide (a0 ≤ 122) = true := yE c3
   clear c3
   obtain rfl := yG H
   go_enter Tryd.func57, Tryd.ntmps57
   go_wp2
   go_ret
   exact ⟨apC, apF⟩
  ·rw [if_neg c3] at H
   have c3b0 : decide (a0 ≤ 122) = false := decide_eq_false c3
   clear c3
   obtain rfl := yG H
   go_enter Tryd.func57, Tryd.ntmps57
   go_wp2
   go_ret
   exact ⟨apC, apF⟩
 ·rw [if_neg c2] at H
  have c2b0 : decide (97 ≤ a0) = false := decide_eq_false c2
  clear c2
  obtain rfl := yG H
  go_enter Tryd.func57, Tryd.ntmps57
  go_wp2
  go_ret
  exact ⟨apC, apF⟩


def impl_isFigure.f (a0 : Int) : Option (Bool) := if a0 ≥ 48 then (some (decide (a0 ≤ 57))) else (some false)
set_option maxHeartbeats 8000000 in
set_option maxRecDepth 100000 in
theorem impl_isFigure.calls (a0 : Int) (r : Bool) (w : World) (h : impl_isFigure.f a0 = some r) :
  Calls Tryd.prog 72 #[.int .u8 a0] w fun e w' => e = .returned (.bool r) ∧ Drawn0 w w' := by
 have H : (if a0 ≥ 48 then (some (decide (a0 ≤ 57))) else (some false)) = some r := h
 clear h
 by_cases c2 : a0 ≥ 48
 ·rw [if_pos c2] at H
  have c2b0 : decide (48 ≤ a0) = true := yE c2
  clear c2
  obtain rfl := yG H
  go_enter Tryd.func72, Tryd.ntmps72
  go_wp2
  go_ret
  exact ⟨apC, apF⟩
 ·rw [if_neg c2] at H
  have c2b0 : decide (48 ≤ a0) = false := decide_eq_false c2
  clear c2
  obtain rfl := yG H
  go_enter Tryd.func72, Tryd.ntmps72
  go_wp2
  go_ret
  exact ⟨apC, apF⟩


def impl_inName.f (a0 : Int) : Option (Bool) := (impl_isLetter.f a0).bind fun t249 => (if t249 = true then (some true) else ((impl_isFigure.f a0).bind fun t250 => (some t250)))
set_option maxHeartbeats 8000000 in
set_option maxRecDepth 100000 in
theorem impl_inName.calls (a0 : Int) (r : Bool) (w : World) (h : impl_inName.f a0 = some r) :
  Calls Tryd.prog 59 #[.int .u8 a0] w fun e w' => e = .returned (.bool r) ∧ Drawn0 w w' := by
 have H : ((impl_isLetter.f a0).bind fun t249 => (if t249 = true then (some true) else ((impl_isFigure.f a0).bind fun t250 => (some t250)))) = some r := h
 clear h
 replace H := Option.bind_eq_some_iff.mp H
 obtain ⟨t249, A20, H⟩ := H
 have A2 := zA A20
 clear A20
 by_cases c3 : t249 = true
 ·subst c3
  have H1 := H; rw [if_pos rfl] at H1
  clear H
  have H := H1
  clear H1
  obtain rfl := yG H
  go_enter Tryd.func59, Tryd.ntmps59
  go_wp2_with (first | ((with_reducible refine zT (f := 57) rfl ?_); refine goesL_ (some 4) rfl rfl Tryd.func57 (by kernel_rfl) rfl #[.int .u8 a0] rfl apE ?_; (with_reducible refine (impl_isLetter.calls a0 true _ A2.out).mono ?_); rintro e w' ⟨rfl, ⟨nd, rfl⟩⟩; refine ⟨_, rfl, ?_⟩))
  go_ret
  exact ⟨apC, apF⟩
 ·replace c3 := Bool.eq_false_iff.mpr c3
  subst c3
  have H1 := H; rw [if_neg (show ¬ (false = true) by decide)] at H1
  clear H
  have H := H1
  clear H1
  replace H := Option.bind_eq_some_iff.mp H
  obtain ⟨t250, A40, H⟩ := H
  have A4 := zA A40
  clear A40
  obtain rfl := yG H
  go_enter Tryd.func59, Tryd.ntmps59
  go_wp2_with (first | ((with_reducible refine zT (f := 57) rfl ?_); refine goesL_ (some 4) rfl rfl Tryd.func57 (by kernel_rfl) rfl #[.int .u8 a0] rfl apE ?_; (with_reducible refine (impl_isLetter.calls a0 false _ A2.out).mono ?_); rintro e w' ⟨rfl, ⟨nd, rfl⟩⟩; refine ⟨_, rfl, ?_⟩) | (go_at_call 72; (with_reducible refine (impl_isFigure.calls a0 t250 _ A4.out).mono ?_); rintro e w' ⟨rfl, ⟨nd, rfl⟩⟩))
  go_ret
  exact ⟨apC, apF⟩


def impl_run_at_inName.l0 : Nat → ByteArray → Int → Option (Int)
 | 0, _, _ => none
 | k + 1, x0, x1 => if x1 < (x0.size : Int) then (if 0 ≤ x1 then ((impl_inName.f (bt x0 x1)).bind fun t251 => (if t251 = true then (impl_run_at_inName.l0 k x0 (wrap64 (x1 + 1))) else (some x1))) else (none)) else (some x1)
def impl_run_at_inName.f (k : Nat) (a0 : ByteArray) (a1 : Int)  : Option (Int) := impl_run_at_inName.l0 k a0 a1
theorem impl_run_at_inName.mono_l : ∀ k, (∀ y0 y1, LeO (impl_run_at_inName.l0 k y0 y1) (impl_run_at_inName.l0 (k + 1) y0 y1))
 | 0 => fun _ _ r h => by simp [impl_run_at_inName.l0] at h
 | k + 1 => by
  have ih0 := impl_run_at_inName.mono_l k
  ·intro y0 y1
   unfold impl_run_at_inName.l0
   repeat' first
   | (with_reducible exact ih0 _ _)
   | (with_reducible exact LeO.refl _)
   | (with_reducible exact LeO.none _)
   | (with_reducible refine LeO.ite ?_ ?_)
   | (with_reducible refine LeO.bind ?_ (fun _ => ?_))
   | exact ih0 _ _
theorem impl_run_at_inName.mono : ∀ a0 a1 k, LeO (impl_run_at_inName.f k a0 a1) (impl_run_at_inName.f (k + 1) a0 a1) := by
 intro a0 a1 k
 have ih0 := impl_run_at_inName.mono_l k
 unfold impl_run_at_inName.f
 repeat' first
   | (with_reducible exact ih0 _ _)
   | (with_reducible exact LeO.refl _)
   | (with_reducible exact LeO.none _)
   | (with_reducible refine LeO.ite ?_ ?_)
   | (with_reducible refine LeO.bind ?_ (fun _ => ?_))
   | exact ih0 _ _
set_option maxHeartbeats 8000000 in
set_option maxRecDepth 100000 in
theorem impl_run_at_inName.calls (k : Nat) (a0 : ByteArray) (a1 : Int)  (r : Int) (w : World) (h : impl_run_at_inName.f k a0 a1 = some r) :
  Calls Tryd.prog 58 #[.string a0, .int .i64 a1, .func (.func 59) #[] #[]] w fun e w' => e = .returned (.int .i64 r) ∧ Drawn0 w w' := by
 have H : (impl_run_at_inName.l0 k a0 a1) = some r := h
 clear h
 have H' := zA H
 clear H
 go_enter Tryd.func58, Tryd.ntmps58
 go_wp2
 go_loopg [1] k (fun kq v1 w' => ∃ (x1_1 : Int), v1 = .int .i64 x1_1 ∧ Aside0 (impl_run_at_inName.l0 kq a0 x1_1 = some r) ∧ Aside0 (kq ≤ k) ∧ Drawn0 w w')
 case atStart => exact ⟨(a1), apC, H', ⟨yJ _⟩, apF⟩
 case round =>
  clear H'
  try clear p2
  obtain ⟨x1_1, rfl, HA, HK1, ⟨m1, rfl⟩⟩ := hrel
  cases gk with
  | zero => exact absurd HA.out (by simp [impl_run_at_inName.l0])
  | succ k1 =>
   have H := HA.out
   clear HA
   simp only [impl_run_at_inName.l0] at H
   by_cases c4 : x1_1 < (a0.size : Int)
   ·rw [if_pos c4] at H
    have c4b0 : decide (x1_1 < (a0.size : Int)) = true := yE c4
    clear c4
    by_cases c5 : 0 ≤ x1_1
    ·rw [if_pos c5] at H
     have c5b0 : decide (0 ≤ x1_1) = true := yE c5
     clear c5
     replace H := Option.bind_eq_some_iff.mp H
     obtain ⟨t251, A70, H⟩ := H
     have A7 := zA A70
     clear A70
     by_cases c8 : t251 = true
     ·subst c8
      have H1 := H; rw [if_pos rfl] at H1
      clear H
      have H := H1
      clear H1
      have H' := zA H
      clear H
      have p6 : 0 ≤ (x1_1 : Int) := yF apB
      have q6 : x1_1 < (a0.size : Int) := yF apB
      have hx6 := bt_at a0 x1_1
      replace p6 := eq_true p6
      replace q6 := eq_true q6
      go_wp2_with (first | (go_at_call 59; (with_reducible refine (impl_inName.calls (bt a0 x1_1) true _ A7.out).mono ?_); rintro e w' ⟨rfl, ⟨nd, rfl⟩⟩))
      go_roundg k1
      case measure => have := HK1.out; omega
      case rel => exact ⟨(wrap64 (x1_1 + 1)), apC, H', ⟨by have := HK1.out; omega⟩, apF⟩
     ·replace c8 := Bool.eq_false_iff.mpr c8
      subst c8
      have H1 := H; rw [if_neg (show ¬ (false = true) by decide)] at H1
      clear H
      have H := H1
      clear H1
      obtain rfl := yG H
      have p6 : 0 ≤ (x1_1 : Int) := yF apB
      have q6 : x1_1 < (a0.size : Int) := yF apB
      have hx6 := bt_at a0 x1_1
      replace p6 := eq_true p6
      replace q6 := eq_true q6
      go_wp2_with (first | (go_at_call 59; (with_reducible refine (impl_inName.calls (bt a0 x1_1) false _ A7.out).mono ?_); rintro e w' ⟨rfl, ⟨nd, rfl⟩⟩))
      go_ret
      exact ⟨apC, apF⟩
    ·rw [if_neg c5] at H
     exact absurd H (by simp)
   ·rw [if_neg c4] at H
    have c4b0 : decide (x1_1 < (a0.size : Int)) = false := decide_eq_false c4
    clear c4
    obtain rfl := yG H
    go_wp2
    go_ret
    exact ⟨apC, apF⟩


def slices_Index_string_string.l0 : Nat → List ByteArray → ByteArray → Int → Int → Option (Int)
 | 0, _, _, _, _ => none
 | k + 1, x0, x1, x7, x8 => if x8 < x7 then (if 0 ≤ x8 then (if x8 < (x0.length : Int) then (if x1.toList = (rdOf ByteArray.empty x0 x8).toList then (some x8) else (slices_Index_string_string.l0 k x0 x1 x7 (wrap64 (x8 + 1)))) else (none)) else (none)) else (some (-1))
def slices_Index_string_string.f (k : Nat) (l0 : List ByteArray) (a1 : ByteArray) : Option (Int) := slices_Index_string_string.l0 k l0 a1 (l0.length : Int) 0
theorem slices_Index_string_string.mono_l : ∀ k, (∀ y0 y1 y2 y3, LeO (slices_Index_string_string.l0 k y0 y1 y2 y3) (slices_Index_string_string.l0 (k + 1) y0 y1 y2 y3))
 | 0 => fun _ _ _ _ r h => by simp [slices_Index_string_string.l0] at h
 | k + 1 => by
  have ih0 := slices_Index_string_string.mono_l k
  ·intro y0 y1 y2 y3
   unfold slices_Index_string_string.l0
   repeat' first
   | (with_reducible exact ih0 _ _ _ _)
   | (with_reducible exact LeO.refl _)
   | (with_reducible exact LeO.none _)
   | (with_reducible refine LeO.ite ?_ ?_)
   | (with_reducible refine LeO.bind ?_ (fun _ => ?_))
   | exact ih0 _ _ _ _
theorem slices_Index_string_string.mono : ∀ a0 a1 k, LeO (slices_Index_string_string.f k a0 a1) (slices_Index_string_string.f (k + 1) a0 a1) := by
 intro a0 a1 k
 have ih0 := slices_Index_string_string.mono_l k
 unfold slices_Index_string_string.f
 repeat' first
   | (with_reducible exact ih0 _ _ _ _)
   | (with_reducible exact LeO.refl _)
   | (with_reducible exact LeO.none _)
   | (with_reducible refine LeO.ite ?_ ?_)
   | (with_reducible refine LeO.bind ?_ (fun _ => ?_))
   | exact ih0 _ _ _ _
set_option maxHeartbeats 8000000 in
set_option maxRecDepth 100000 in
theorem slices_Index_string_string.calls (k : Nat) (A0 : Option Addr) (c0 : Nat) (l0 : List ByteArray) (a1 : ByteArray) (r : Int) (w : World) (hr0 : Kd.C Kd.string w A0 l0.length l0) (hc0 : l0.length ≤ c0) (h : slices_Index_string_string.f k l0 a1 = some r) :
  Calls Tryd.prog 73 #[.slice A0 l0.length c0, .string a1] w fun e w' => e = .returned (.int .i64 r) ∧ Drawn0 w w' := by
 have HR0 := zA hr0
 have HC0 := zA hc0
 clear hr0 hc0
 have H : (slices_Index_string_string.l0 k l0 a1 (l0.length : Int) 0) = some r := h
 clear h
 have H' := zA H
 clear H
 go_enter Tryd.func73, Tryd.ntmps73
 go_wp2
 go_loopg [8] k (fun kq v8 w' => ∃ (x8_1 : Int), v8 = .int .i64 x8_1 ∧ Aside0 (slices_Index_string_string.l0 kq l0 a1 (l0.length : Int) x8_1 = some r) ∧ Aside0 (kq ≤ k) ∧ Drawn0 w w')
 case atStart => exact ⟨(0), apC, H', ⟨yJ _⟩, apF⟩
 case round =>
  clear H'
  try clear p2
  obtain ⟨x8_1, rfl, HA, HK1, ⟨m1, rfl⟩⟩ := hrel
  cases gk with
  | zero => exact absurd HA.out (by simp [slices_Index_string_string.l0])
  | succ k1 =>
   have H := HA.out
   clear HA
   simp only [slices_Index_string_string.l0] at H
   by_cases c3 : x8_1 < (l0.length : Int)
   ·rw [if_pos c3] at H
    have c3b0 : decide (x8_1 < (l0.length : Int)) = true := yE c3
    clear c3
    by_cases c4 : 0 ≤ x8_1
    ·rw [if_pos c4] at H
     have c4b0 : decide (0 ≤ x8_1) = true := yE c4
     clear c4
     by_cases c5 : x8_1 < (l0.length : Int)
     ·rw [if_pos c5] at H
      have c5b0 : decide (x8_1 < (l0.length : Int)) = true := yE c5
      clear c5
      by_cases c6 : a1.toList = (rdOf ByteArray.empty l0 x8_1).toList
      ·rw [if_pos c6] at H
       have c6b0 : (a1.toList == (rdOf ByteArray.empty l0 x8_1).toList) = true := beq_iff_eq.mpr c6
       have c6b1 : (a1.toList != (rdOf ByteArray.empty l0 x8_1).toList) = false := bne_eq_false_iff_eq.mpr c6
       clear c6
       obtain rfl := yG H
       have p252 : 0 ≤ (x8_1 : Int) := yF apB
       have q252 : x8_1 < (l0.length : Int) := yF apB
       obtain ⟨ad252, e252, hx252_0⟩ := Kd.at_string HR0.out x8_1 p252 q252
       cases e252
       replace p252 := eq_true p252
       replace q252 := eq_true q252
       go_wp2
       go_ret
       exact ⟨apC, apF⟩
      ·rw [if_neg c6] at H
       have c6b0 : (a1.toList == (rdOf ByteArray.empty l0 x8_1).toList) = false := beq_eq_false_iff_ne.mpr c6
       have c6b1 : (a1.toList != (rdOf ByteArray.empty l0 x8_1).toList) = true := bne_iff_ne.mpr c6
       have H' := zA H
       clear H
       have p252 : 0 ≤ (x8_1 : Int) := yF apB
       have q252 : x8_1 < (l0.length : Int) := yF apB
       obtain ⟨ad252, e252, hx252_0⟩ := Kd.at_string HR0.out x8_1 p252 q252
       cases e252
       replace p252 := eq_true p252
       replace q252 := eq_true q252
       go_wp2
       go_roundg k1
       case measure => have := HK1.out; omega
       case rel => exact ⟨(wrap64 (x8_1 + 1)), apC, H', ⟨by have := HK1.out; omega⟩, apF⟩
     ·rw [if_neg c5] at H
      exact absurd H (by simp)
    ·rw [if_neg c4] at H
     exact absurd H (by simp)
   ·rw [if_neg c3] at H
    have c3b0 : decide (x8_1 < (l0.length : Int)) = false := decide_eq_false c3
    clear c3
    obtain rfl := yG H
    go_wp2
    go_ret
    exact ⟨apC, apF⟩


def slices_Contains_string_string.f (k : Nat) (l0 : List ByteArray) (a1 : ByteArray) : Option (Bool) := (slices_Index_string_string.f k l0 a1).bind fun t253 => (some (decide (t253 ≥ 0)))
theorem slices_Contains_string_string.mono : ∀ a0 a1 k, LeO (slices_Contains_string_string.f k a0 a1) (slices_Contains_string_string.f (k + 1) a0 a1) := by
 intro a0 a1 k
 unfold slices_Contains_string_string.f
 repeat' first
   | (with_reducible exact slices_Index_string_string.mono _ _ _)
   | (with_reducible exact LeO.refl _)
   | (with_reducible exact LeO.none _)
   | (with_reducible refine LeO.ite ?_ ?_)
   | (with_reducible refine LeO.bind ?_ (fun _ => ?_))
set_option maxHeartbeats 8000000 in
set_option maxRecDepth 100000 in
theorem slices_Contains_string_string.calls (k : Nat) (A0 : Option Addr) (c0 : Nat) (l0 : List ByteArray) (a1 : ByteArray) (r : Bool) (w : World) (hr0 : Kd.C Kd.string w A0 l0.length l0) (hc0 : l0.length ≤ c0) (h : slices_Contains_string_string.f k l0 a1 = some r) :
  Calls Tryd.prog 60 #[.slice A0 l0.length c0, .string a1] w fun e w' => e = .returned (.bool r) ∧ Drawn0 w w' := by
 have HR0 := zA hr0
 have HC0 := zA hc0
 clear hr0 hc0
 have H : ((slices_Index_string_string.f k l0 a1).bind fun t253 => (some (decide (t253 ≥ 0)))) = some r := h
 clear h
 replace H := Option.bind_eq_some_iff.mp H
 obtain ⟨t253, A30, H⟩ := H
 have A3 := zA A30
 clear A30
 obtain rfl := yG H
 go_enter Tryd.func60, Tryd.ntmps60
 go_wp2_with (first | ((with_reducible refine zT (f := 73) rfl ?_); refine goesL_ (some 7) rfl rfl Tryd.func73 (by kernel_rfl) rfl #[.slice A0 l0.length c0, .string a1] rfl apE ?_; (with_reducible refine (slices_Index_string_string.calls k _ _ l0 a1 t253 _ ?side1 ?side2 A3.out).mono ?_); (case side1 => repeat (first | exact HR0.out | (with_reducible refine Kd.C_alloc ?_ _) | (with_reducible refine Kd.C_drewN ?_ _) | (with_reducible refine Kd.C_drew ?_))); (case side2 => exact HC0.out); rintro e w' ⟨rfl, ⟨nd, rfl⟩⟩; refine ⟨_, rfl, ?_⟩))
 go_ret
 exact ⟨apC, apF⟩


def impl_NameOk.f (k : Nat) (a0 : ByteArray) (l1 : List (List ByteArray)) : Option (Bool) := if a0.toList = ([] : List UInt8) then (some false) else (if (a0.size : Int) ≤ 12 then (if 0 < (a0.size : Int) then ((impl_isLetter.f (bt a0 0)).bind fun t254 => (if t254 = true then ((impl_run_at_inName.f k a0 0).bind fun t255 => (if t255 = (a0.size : Int) then (if 0 < (l1.length : Int) then ((slices_Contains_string_string.f k (rd_L3 l1 0) a0).bind fun t257 => (some (!t257))) else (none)) else (some false))) else (some false))) else (none)) else (some false))
theorem impl_NameOk.mono : ∀ a0 a1 k, LeO (impl_NameOk.f k a0 a1) (impl_NameOk.f (k + 1) a0 a1) := by
 intro a0 a1 k
 unfold impl_NameOk.f
 repeat' first
   | (with_reducible exact impl_run_at_inName.mono _ _ _)
   | (with_reducible exact slices_Contains_string_string.mono _ _ _)
   | (with_reducible exact LeO.refl _)
   | (with_reducible exact LeO.none _)
   | (with_reducible refine LeO.ite ?_ ?_)
   | (with_reducible refine LeO.bind ?_ (fun _ => ?_))
set_option maxHeartbeats 8000000 in
set_option maxRecDepth 100000 in
theorem impl_NameOk.calls (k : Nat) (a0 : ByteArray) (A1 : Option Addr) (c1 : Nat) (l1 : List (List ByteArray)) (r : Bool) (w : World) (hr1 : Kd.C (Kd.slice 9 Kd.string) w A1 l1.length l1) (hc1 : l1.length ≤ c1) (hg1 : A1 = some ⟨0, 0, none⟩) (h : impl_NameOk.f k a0 l1 = some r) :
  Calls Tryd.prog 49 #[.string a0] w fun e w' => e = .returned (.bool r) ∧ Drawn0 w w' := by
 have HG1 := zA hg1
 clear hg1
 have HR1 := zA hr1
 have HC1 := zA hc1
 clear hr1 hc1
 have H : (if a0.toList = ([] : List UInt8) then (some false) else (if (a0.size : Int) ≤ 12 then (if 0 < (a0.size : Int) then ((impl_isLetter.f (bt a0 0)).bind fun t254 => (if t254 = true then ((impl_run_at_inName.f k a0 0).bind fun t255 => (if t255 = (a0.size : Int) then (if 0 < (l1.length : Int) then ((slices_Contains_string_string.f k (rd_L3 l1 0) a0).bind fun t257 => (some (!t257))) else (none)) else (some false))) else (some false))) else (none)) else (some false))) = some r := h
 clear h
 by_cases c3 : a0.toList = ([] : List UInt8)
 ·rw [if_pos c3] at H
  have c3b0 : (a0.toList == ([] : List UInt8)) = true := beq_iff_eq.mpr c3
  have c3b1 : (a0.toList != ([] : List UInt8)) = false := bne_eq_false_iff_eq.mpr c3
  clear c3
  obtain rfl := yG H
  go_enter Tryd.func49, Tryd.ntmps49
  go_wp2
  go_ret
  exact ⟨apC, apF⟩
 ·rw [if_neg c3] at H
  have c3b0 : (a0.toList == ([] : List UInt8)) = false := beq_eq_false_iff_ne.mpr c3
  have c3b1 : (a0.toList != ([] : List UInt8)) = true := bne_iff_ne.mpr c3
  by_cases c4 : (a0.size : Int) ≤ 12
  ·rw [if_pos c4] at H
   have c4b0 : decide ((a0.size : Int) ≤ 12) = true := yE c4
   have c4b1 : decide (a0.size ≤ 12) = true := yE (by omega)
   clear c4
   by_cases c5 : 0 < (a0.size : Int)
   ·rw [if_pos c5] at H
    have c5b0 : decide (0 < (a0.size : Int)) = true := yE c5
    have c5b1 : decide (0 < a0.size) = true := yE (by omega)
    clear c5
    replace H := Option.bind_eq_some_iff.mp H
    obtain ⟨t254, A70, H⟩ := H
    have A7 := zA A70
    clear A70
    by_cases c8 : t254 = true
    ·subst c8
     have H1 := H; rw [if_pos rfl] at H1
     clear H
     have H := H1
     clear H1
     replace H := Option.bind_eq_some_iff.mp H
     obtain ⟨t255, A90, H⟩ := H
     have A9 := zA A90
     clear A90
     by_cases c10 : t255 = (a0.size : Int)
     ·rw [if_pos c10] at H
      have c10b0 : (t255 == (a0.size : Int)) = true := beq_iff_eq.mpr c10
      have c10b1 : (t255 != (a0.size : Int)) = false := bne_eq_false_iff_eq.mpr c10
      clear c10
      by_cases c11 : 0 < (l1.length : Int)
      ·rw [if_pos c11] at H
       have c11b0 : decide (0 < (l1.length : Int)) = true := yE c11
       have c11b1 : decide (0 < l1.length) = true := yE (by omega)
       clear c11
       replace H := Option.bind_eq_some_iff.mp H
       obtain ⟨t257, A120, H⟩ := H
       have A12 := zA A120
       clear A120
       obtain rfl := yG H
       have p6 : 0 ≤ (0 : Int) := (by omega)
       have q6 : 0 < a0.size := (by have : (0 : Int) < (a0.size : Int) := yF apB; omega)
       have hx6 : ∀ h : 0 < a0.size, ((a0[0]'h).toNat : Int) = bt a0 0 := bt_at a0 0
       clear p6
       have qi6 : (0 < (a0.size : Int)) = True := eq_true (yF apB)
       replace q6 := eq_true q6
       go_enter Tryd.func49, Tryd.ntmps49
       go_wp2_with (first | (go_at_call 57; (with_reducible refine (impl_isLetter.calls (bt a0 0) true _ A7.out).mono ?_); rintro e w' ⟨rfl, ⟨nd, rfl⟩⟩) | (go_at_call 58; (with_reducible refine (impl_run_at_inName.calls k a0 0 t255 _ A9.out).mono ?_); rintro e w' ⟨rfl, ⟨nd, rfl⟩⟩; have p256 : 0 ≤ (0 : Int) := (by omega); have q256 : 0 < (l1.length : Int) := yF apB; obtain ⟨ad256, A256_0, c256_0, e256, hx256_0, hl256_0, hi256_0⟩ := at_L3 HR1.out 0 p256 q256; cases e256; have qi256 : (0 < l1.length) = True := eq_true (by omega); (try rw [show ((0 : Int)).toNat = 0 from rfl] at hx256_0); (try rw [Addr.add_zero'] at hx256_0); (try rw [yG HG1.out] at hx256_0); have HR256_0 := zA hi256_0; have HC256_0 := zA hl256_0; clear hi256_0 hl256_0; replace p256 := eq_true p256; replace q256 := eq_true q256) | (go_at_call 60; (with_reducible refine (slices_Contains_string_string.calls k _ _ (rd_L3 l1 0) a0 t257 _ ?side1 ?side2 A12.out).mono ?_); (case side1 => repeat (first | exact HR256_0.out | (with_reducible refine Kd.C_alloc ?_ _) | (with_reducible refine Kd.C_drewN ?_ _) | (with_reducible refine Kd.C_drew ?_))); (case side2 => exact HC256_0.out); rintro e w' ⟨rfl, ⟨nd, rfl⟩⟩))
       go_ret
       exact ⟨apC, apF⟩
      ·rw [if_neg c11] at H
       exact absurd H (by simp)
     ·rw [if_neg c10] at H
      have c10b0 : (t255 == (a0.size : Int)) = false := beq_eq_false_iff_ne.mpr c10
      have c10b1 : (t255 != (a0.size : Int)) = true := bne_iff_ne.mpr c10
      obtain rfl := yG H
      have p6 : 0 ≤ (0 : Int) := (by omega)
      have q6 : 0 < a0.size := (by have : (0 : Int) < (a0.size : Int) := yF apB; omega)
      have hx6 : ∀ h : 0 < a0.size, ((a0[0]'h).toNat : Int) = bt a0 0 := bt_at a0 0
      clear p6
      have qi6 : (0 < (a0.size : Int)) = True := eq_true (yF apB)
      replace q6 := eq_true q6
      go_enter Tryd.func49, Tryd.ntmps49
      go_wp2_with (first | (go_at_call 57; (with_reducible refine (impl_isLetter.calls (bt a0 0) true _ A7.out).mono ?_); rintro e w' ⟨rfl, ⟨nd, rfl⟩⟩) | (go_at_call 58; (with_reducible refine (impl_run_at_inName.calls k a0 0 t255 _ A9.out).mono ?_); rintro e w' ⟨rfl, ⟨nd, rfl⟩⟩))
      go_ret
      exact ⟨apC, apF⟩
    ·replace c8 := Bool.eq_false_iff.mpr c8
     subst c8
     have H1 := H; rw [if_neg (show ¬ (false = true) by decide)] at H1
     clear H
     have H := H1
     clear H1
     obtain rfl := yG H
     have p6 : 0 ≤ (0 : Int) := (by omega)
     have q6 : 0 < a0.size := (by have : (0 : Int) < (a0.size : Int) := yF apB; omega)
     have hx6 : ∀ h : 0 < a0.size, ((a0[0]'h).toNat : Int) = bt a0 0 := bt_at a0 0
     clear p6
     have qi6 : (0 < (a0.size : Int)) = True := eq_true (yF apB)
     replace q6 := eq_true q6
     go_enter Tryd.func49, Tryd.ntmps49
     go_wp2_with (first | (go_at_call 57; (with_reducible refine (impl_isLetter.calls (bt a0 0) false _ A7.out).mono ?_); rintro e w' ⟨rfl, ⟨nd, rfl⟩⟩))
     go_ret
     exact ⟨apC, apF⟩
   ·rw [if_neg c5] at H
    exact absurd H (by simp)
  ·rw [if_neg c4] at H
   have c4b0 : decide ((a0.size : Int) ≤ 12) = false := decide_eq_false c4
   have c4b1 : decide (a0.size ≤ 12) = false := decide_eq_false (by omega)
   clear c4
   obtain rfl := yG H
   go_enter Tryd.func49, Tryd.ntmps49
   go_wp2
   go_ret
   exact ⟨apC, apF⟩


def spec_l1In.f (a0 : Int) (a1 : Int) (a2 : Int) : Option (Bool) := if a0 ≥ a1 then (some (decide (a0 ≤ a2))) else (some false)
set_option maxHeartbeats 8000000 in
set_option maxRecDepth 100000 in
theorem spec_l1In.calls (a0 : Int) (a1 : Int) (a2 : Int) (r : Bool) (w : World) (h : spec_l1In.f a0 a1 a2 = some r) :
  Calls Tryd.prog 55 #[.int .i64 a0, .int .i64 a1, .int .i64 a2] w fun e w' => e = .returned (.bool r) ∧ Drawn0 w w' := by
 have H : (if a0 ≥ a1 then (some (decide (a0 ≤ a2))) else (some false)) = some r := h
 clear h
 by_cases c4 : a0 ≥ a1
 ·rw [if_pos c4] at H
  have c4b0 : decide (a1 ≤ a0) = true := yE c4
  clear c4
  obtain rfl := yG H
  go_enter Tryd.func55, Tryd.ntmps55
  go_wp2
  go_ret
  exact ⟨apC, apF⟩
 ·rw [if_neg c4] at H
  have c4b0 : decide (a1 ≤ a0) = false := decide_eq_false c4
  clear c4
  obtain rfl := yG H
  go_enter Tryd.func55, Tryd.ntmps55
  go_wp2
  go_ret
  exact ⟨apC, apF⟩


def spec_l2Low.f (a0 : Int) : Option (Bool) := if a0 ≥ 97 then (if a0 ≤ 122 then (some true) else (some (a0 == 95))) else (some (a0 == 95))
set_option maxHeartbeats 8000000 in
set_option maxRecDepth 100000 in
theorem spec_l2Low.calls (a0 : Int) (r : Bool) (w : World) (h : spec_l2Low.f a0 = some r) :
  Calls Tryd.prog 80 #[.int .u8 a0] w fun e w' => e = .returned (.bool r) ∧ Drawn0 w w' := by
 have H : (if a0 ≥ 97 then (if a0 ≤ 122 then (some true) else (some (a0 == 95))) else (some (a0 == 95))) = some r := h
 clear h
 by_cases c2 : a0 ≥ 97
 ·rw [if_pos c2] at H
  have c2b0 : decide (97 ≤ a0) = true := yE c2
  clear c2
  by_cases c3 : a0 ≤ 122
  ·rw [if_pos c3] at H
   have c3b0 : decide (a0 ≤ 122) = true := yE c3
   clear c3
   obtain rfl := yG H
   go_enter Tryd.func80, Tryd.ntmps80
   go_wp2
   go_ret
   exact ⟨apC, apF⟩
  ·rw [if_neg c3] at H
   have c3b0 : decide (a0 ≤ 122) = false := decide_eq_false c3
   clear c3
   obtain rfl := yG H
   go_enter Tryd.func80, Tryd.ntmps80
   go_wp2
   go_ret
   exact ⟨apC, apF⟩
 ·rw [if_neg c2] at H
  have c2b0 : decide (97 ≤ a0) = false := decide_eq_false c2
  clear c2
  obtain rfl := yG H
  go_enter Tryd.func80, Tryd.ntmps80
  go_wp2
  go_ret
  exact ⟨apC, apF⟩


def spec_l2Figure.f (a0 : Int) : Option (Bool) := if a0 ≥ 48 then (some (decide (a0 ≤ 57))) else (some false)
set_option maxHeartbeats 8000000 in
set_option maxRecDepth 100000 in
theorem spec_l2Figure.calls (a0 : Int) (r : Bool) (w : World) (h : spec_l2Figure.f a0 = some r) :
  Calls Tryd.prog 81 #[.int .u8 a0] w fun e w' => e = .returned (.bool r) ∧ Drawn0 w w' := by
 have H : (if a0 ≥ 48 then (some (decide (a0 ≤ 57))) else (some false)) = some r := h
 clear h
 by_cases c2 : a0 ≥ 48
 ·rw [if_pos c2] at H
  have c2b0 : decide (48 ≤ a0) = true := yE c2
  clear c2
  obtain rfl := yG H
  go_enter Tryd.func81, Tryd.ntmps81
  go_wp2
  go_ret
  exact ⟨apC, apF⟩
 ·rw [if_neg c2] at H
  have c2b0 : decide (48 ≤ a0) = false := decide_eq_false c2
  clear c2
  obtain rfl := yG H
  go_enter Tryd.func81, Tryd.ntmps81
  go_wp2
  go_ret
  exact ⟨apC, apF⟩


def spec_l2Letters.l0 : Nat → ByteArray → Int → Option (Bool)
 | 0, _, _ => none
 | k + 1, x0, x3 => if x3 < (x0.size : Int) then (if 0 ≤ x3 then ((spec_l2Low.f (bt x0 x3)).bind fun t151 => (if t151 = true then (spec_l2Letters.l0 k x0 (wrap64 (x3 + 1))) else (if x3 = 0 then (some false) else ((spec_l2Figure.f (bt x0 x3)).bind fun t152 => (if t152 = true then (spec_l2Letters.l0 k x0 (wrap64 (x3 + 1))) else (some false)))))) else (none)) else ((spec_l1In.f (x0.size : Int) 1 12).bind fun t150 => (some t150))
def spec_l2Letters.f (k : Nat) (a0 : ByteArray) : Option (Bool) := spec_l2Letters.l0 k a0 0
theorem spec_l2Letters.mono_l : ∀ k, (∀ y0 y1, LeO (spec_l2Letters.l0 k y0 y1) (spec_l2Letters.l0 (k + 1) y0 y1))
 | 0 => fun _ _ r h => by simp [spec_l2Letters.l0] at h
 | k + 1 => by
  have ih0 := spec_l2Letters.mono_l k
  ·intro y0 y1
   unfold spec_l2Letters.l0
   repeat' first
   | (with_reducible exact ih0 _ _)
   | (with_reducible exact LeO.refl _)
   | (with_reducible exact LeO.none _)
   | (with_reducible refine LeO.ite ?_ ?_)
   | (with_reducible refine LeO.bind ?_ (fun _ => ?_))
   | exact ih0 _ _
theorem spec_l2Letters.mono : ∀ a0 k, LeO (spec_l2Letters.f k a0) (spec_l2Letters.f (k + 1) a0) := by
 intro a0 k
 have ih0 := spec_l2Letters.mono_l k
 unfold spec_l2Letters.f
 repeat' first
   | (with_reducible exact ih0 _ _)
   | (with_reducible exact LeO.refl _)
   | (with_reducible exact LeO.none _)
   | (with_reducible refine LeO.ite ?_ ?_)
   | (with_reducible refine LeO.bind ?_ (fun _ => ?_))
   | exact ih0 _ _
set_option maxHeartbeats 8000000 in
set_option maxRecDepth 100000 in
theorem spec_l2Letters.calls (k : Nat) (a0 : ByteArray) (r : Bool) (w : World) (h : spec_l2Letters.f k a0 = some r) :
  Calls Tryd.prog 69 #[.string a0] w fun e w' => e = .returned (.bool r) ∧ Drawn0 w w' := by
 have H : (spec_l2Letters.l0 k a0 0) = some r := h
 clear h
 have H' := zA H
 clear H
 go_enter Tryd.func69, Tryd.ntmps69
 go_wp2
 go_loopg [3] k (fun kq v3 w' => ∃ (x3_1 : Int), v3 = .int .i64 x3_1 ∧ Aside0 (spec_l2Letters.l0 kq a0 x3_1 = some r) ∧ Aside0 (kq ≤ k) ∧ Drawn0 w w')
 case atStart => exact ⟨(0), apC, H', ⟨yJ _⟩, apF⟩
 case round =>
  clear H'
  obtain ⟨x3_1, rfl, HA, HK1, ⟨m1, rfl⟩⟩ := hrel
  cases gk with
  | zero => exact absurd HA.out (by simp [spec_l2Letters.l0])
  | succ k1 =>
   have H := HA.out
   clear HA
   simp only [spec_l2Letters.l0] at H
   by_cases c2 : x3_1 < (a0.size : Int)
   ·rw [if_pos c2] at H
    have c2b0 : decide (x3_1 < (a0.size : Int)) = true := yE c2
    clear c2
    by_cases c3 : 0 ≤ x3_1
    ·rw [if_pos c3] at H
     have c3b0 : decide (0 ≤ x3_1) = true := yE c3
     clear c3
     replace H := Option.bind_eq_some_iff.mp H
     obtain ⟨t151, A50, H⟩ := H
     have A5 := zA A50
     clear A50
     by_cases c6 : t151 = true
     ·subst c6
      have H1 := H; rw [if_pos rfl] at H1
      clear H
      have H := H1
      clear H1
      have H' := zA H
      clear H
      have p4 : 0 ≤ (x3_1 : Int) := yF apB
      have q4 : x3_1 < (a0.size : Int) := yF apB
      have hx4 := bt_at a0 x3_1
      replace p4 := eq_true p4
      replace q4 := eq_true q4
      go_wp2_with (first | ((with_reducible refine zT (f := 80) rfl ?_); refine goesL_ (some 13) rfl rfl Tryd.func80 (by kernel_rfl) rfl #[.int .u8 (bt a0 x3_1)] rfl apE ?_; (with_reducible refine (spec_l2Low.calls (bt a0 x3_1) true _ A5.out).mono ?_); rintro e w' ⟨rfl, ⟨nd, rfl⟩⟩; refine ⟨_, rfl, ?_⟩))
      go_roundg k1
      case measure => have := HK1.out; omega
      case rel => exact ⟨(wrap64 (x3_1 + 1)), apC, H', ⟨by have := HK1.out; omega⟩, apF⟩
     ·replace c6 := Bool.eq_false_iff.mpr c6
      subst c6
      have H1 := H; rw [if_neg (show ¬ (false = true) by decide)] at H1
      clear H
      have H := H1
      clear H1
      by_cases c7 : x3_1 = 0
      ·rw [if_pos c7] at H
       have c7b0 : (x3_1 == 0) = true := beq_iff_eq.mpr c7
       have c7b1 : (x3_1 != 0) = false := bne_eq_false_iff_eq.mpr c7
       clear c7
       obtain rfl := yG H
       have p4 : 0 ≤ (x3_1 : Int) := yF apB
       have q4 : x3_1 < (a0.size : Int) := yF apB
       have hx4 := bt_at a0 x3_1
       replace p4 := eq_true p4
       replace q4 := eq_true q4
       go_wp2_with (first | ((with_reducible refine zT (f := 80) rfl ?_); refine goesL_ (some 13) rfl rfl Tryd.func80 (by kernel_rfl) rfl #[.int .u8 (bt a0 x3_1)] rfl apE ?_; (with_reducible refine (spec_l2Low.calls (bt a0 x3_1) false _ A5.out).mono ?_); rintro e w' ⟨rfl, ⟨nd, rfl⟩⟩; refine ⟨_, rfl, ?_⟩))
       go_ret
       exact ⟨apC, apF⟩
      ·rw [if_neg c7] at H
       have c7b0 : (x3_1 == 0) = false := beq_eq_false_iff_ne.mpr c7
       have c7b1 : (x3_1 != 0) = true := bne_iff_ne.mpr c7
       replace H := Option.bind_eq_some_iff.mp H
       obtain ⟨t152, A90, H⟩ := H
       have A9 := zA A90
       clear A90
       by_cases c10 : t152 = true
       ·subst c10
        have H1 := H; rw [if_pos rfl] at H1
        clear H
        have H := H1
        clear H1
        have H' := zA H
        clear H
        have p4 : 0 ≤ (x3_1 : Int) := yF apB
        have q4 : x3_1 < (a0.size : Int) := yF apB
        have hx4 := bt_at a0 x3_1
        replace p4 := eq_true p4
        replace q4 := eq_true q4
        go_wp2_with (first | ((with_reducible refine zT (f := 80) rfl ?_); refine goesL_ (some 13) rfl rfl Tryd.func80 (by kernel_rfl) rfl #[.int .u8 (bt a0 x3_1)] rfl apE ?_; (with_reducible refine (spec_l2Low.calls (bt a0 x3_1) false _ A5.out).mono ?_); rintro e w' ⟨rfl, ⟨nd, rfl⟩⟩; refine ⟨_, rfl, ?_⟩; have p8 : 0 ≤ (x3_1 : Int) := yF apB; have q8 : x3_1 < (a0.size : Int) := yF apB; have hx8 := bt_at a0 x3_1; replace p8 := eq_true p8; replace q8 := eq_true q8) | (go_at_call 81; (with_reducible refine (spec_l2Figure.calls (bt a0 x3_1) true _ A9.out).mono ?_); rintro e w' ⟨rfl, ⟨nd, rfl⟩⟩))
        go_roundg k1
        case measure => have := HK1.out; omega
        case rel => exact ⟨(wrap64 (x3_1 + 1)), apC, H', ⟨by have := HK1.out; omega⟩, apF⟩
       ·replace c10 := Bool.eq_false_iff.mpr c10
        subst c10
        have H1 := H; rw [if_neg (show ¬ (false = true) by decide)] at H1
        clear H
        have H := H1
        clear H1
        obtain rfl := yG H
        have p4 : 0 ≤ (x3_1 : Int) := yF apB
        have q4 : x3_1 < (a0.size : Int) := yF apB
        have hx4 := bt_at a0 x3_1
        replace p4 := eq_true p4
        replace q4 := eq_true q4
        go_wp2_with (first | ((with_reducible refine zT (f := 80) rfl ?_); refine goesL_ (some 13) rfl rfl Tryd.func80 (by kernel_rfl) rfl #[.int .u8 (bt a0 x3_1)] rfl apE ?_; (with_reducible refine (spec_l2Low.calls (bt a0 x3_1) false _ A5.out).mono ?_); rintro e w' ⟨rfl, ⟨nd, rfl⟩⟩; refine ⟨_, rfl, ?_⟩; have p8 : 0 ≤ (x3_1 : Int) := yF apB; have q8 : x3_1 < (a0.size : Int) := yF apB; have hx8 := bt_at a0 x3_1; replace p8 := eq_true p8; replace q8 := eq_true q8) | (go_at_call 81; (with_reducible refine (spec_l2Figure.calls (bt a0 x3_1) false _ A9.out).mono ?_); rintro e w' ⟨rfl, ⟨nd, rfl⟩⟩))
        go_ret
        exact ⟨apC, apF⟩
    ·rw [if_neg c3] at H
     exact absurd H (by simp)
   ·rw [if_neg c2] at H
    have c2b0 : decide (x3_1 < (a0.size : Int)) = false := decide_eq_false c2
    clear c2
    replace H := Option.bind_eq_some_iff.mp H
    obtain ⟨t150, A110, H⟩ := H
    have A11 := zA A110
    clear A110
    obtain rfl := yG H
    go_wp2_with (first | ((with_reducible refine zT (f := 55) rfl ?_); refine goesL_ (some 28) rfl rfl Tryd.func55 (by kernel_rfl) rfl #[.int .i64 (a0.size : Int), .int .i64 1, .int .i64 12] rfl apE ?_; (with_reducible refine (spec_l1In.calls (a0.size : Int) 1 12 t150 _ A11.out).mono ?_); rintro e w' ⟨rfl, ⟨nd, rfl⟩⟩; refine ⟨_, rfl, ?_⟩))
    go_ret
    exact ⟨apC, apF⟩


def spec_l2Has.l0 : Nat → List ByteArray → ByteArray → Int → Option (Bool)
 | 0, _, _, _ => none
 | k + 1, x0, x1, x5 => if x5 < (x0.length : Int) then (if 0 ≤ x5 then (if (rdOf ByteArray.empty x0 x5).toList = x1.toList then (some true) else (spec_l2Has.l0 k x0 x1 (wrap64 (x5 + 1)))) else (none)) else (some false)
def spec_l2Has.f (k : Nat) (l0 : List ByteArray) (a1 : ByteArray) : Option (Bool) := spec_l2Has.l0 k l0 a1 0
theorem spec_l2Has.mono_l : ∀ k, (∀ y0 y1 y2, LeO (spec_l2Has.l0 k y0 y1 y2) (spec_l2Has.l0 (k + 1) y0 y1 y2))
 | 0 => fun _ _ _ r h => by simp [spec_l2Has.l0] at h
 | k + 1 => by
  have ih0 := spec_l2Has.mono_l k
  ·intro y0 y1 y2
   unfold spec_l2Has.l0
   repeat' first
   | (with_reducible exact ih0 _ _ _)
   | (with_reducible exact LeO.refl _)
   | (with_reducible exact LeO.none _)
   | (with_reducible refine LeO.ite ?_ ?_)
   | (with_reducible refine LeO.bind ?_ (fun _ => ?_))
   | exact ih0 _ _ _
theorem spec_l2Has.mono : ∀ a0 a1 k, LeO (spec_l2Has.f k a0 a1) (spec_l2Has.f (k + 1) a0 a1) := by
 intro a0 a1 k
 have ih0 := spec_l2Has.mono_l k
 unfold spec_l2Has.f
 repeat' first
   | (with_reducible exact ih0 _ _ _)
   | (with_reducible exact LeO.refl _)
   | (with_reducible exact LeO.none _)
   | (with_reducible refine LeO.ite ?_ ?_)
   | (with_reducible refine LeO.bind ?_ (fun _ => ?_))
   | exact ih0 _ _ _
set_option maxHeartbeats 8000000 in
set_option maxRecDepth 100000 in
theorem spec_l2Has.calls (k : Nat) (A0 : Option Addr) (c0 : Nat) (l0 : List ByteArray) (a1 : ByteArray) (r : Bool) (w : World) (hr0 : Kd.C Kd.string w A0 l0.length l0) (hc0 : l0.length ≤ c0) (h : spec_l2Has.f k l0 a1 = some r) :
  Calls Tryd.prog 70 #[.slice A0 l0.length c0, .string a1] w fun e w' => e = .returned (.bool r) ∧ Drawn0 w w' := by
 have HR0 := zA hr0
 have HC0 := zA hc0
 clear hr0 hc0
 have H : (spec_l2Has.l0 k l0 a1 0) = some r := h
 clear h
 have H' := zA H
 clear H
 go_enter Tryd.func70, Tryd.ntmps70
 go_wp2
 go_loopg [5] k (fun kq v5 w' => ∃ (x5_1 : Int), v5 = .int .i64 x5_1 ∧ Aside0 (spec_l2Has.l0 kq l0 a1 x5_1 = some r) ∧ Aside0 (kq ≤ k) ∧ Drawn0 w w')
 case atStart => exact ⟨(0), apC, H', ⟨yJ _⟩, apF⟩
 case round =>
  clear H'
  try clear p2
  obtain ⟨x5_1, rfl, HA, HK1, ⟨m1, rfl⟩⟩ := hrel
  cases gk with
  | zero => exact absurd HA.out (by simp [spec_l2Has.l0])
  | succ k1 =>
   have H := HA.out
   clear HA
   simp only [spec_l2Has.l0] at H
   by_cases c3 : x5_1 < (l0.length : Int)
   ·rw [if_pos c3] at H
    have c3b0 : decide (x5_1 < (l0.length : Int)) = true := yE c3
    clear c3
    by_cases c4 : 0 ≤ x5_1
    ·rw [if_pos c4] at H
     have c4b0 : decide (0 ≤ x5_1) = true := yE c4
     clear c4
     by_cases c5 : (rdOf ByteArray.empty l0 x5_1).toList = a1.toList
     ·rw [if_pos c5] at H
      have c5b0 : ((rdOf ByteArray.empty l0 x5_1).toList == a1.toList) = true := beq_iff_eq.mpr c5
      have c5b1 : ((rdOf ByteArray.empty l0 x5_1).toList != a1.toList) = false := bne_eq_false_iff_eq.mpr c5
      clear c5
      obtain rfl := yG H
      have p156 : 0 ≤ (x5_1 : Int) := yF apB
      have q156 : x5_1 < (l0.length : Int) := yF apB
      obtain ⟨ad156, e156, hx156_0⟩ := Kd.at_string HR0.out x5_1 p156 q156
      cases e156
      replace p156 := eq_true p156
      replace q156 := eq_true q156
      go_wp2
      go_ret
      exact ⟨apC, apF⟩
     ·rw [if_neg c5] at H
      have c5b0 : ((rdOf ByteArray.empty l0 x5_1).toList == a1.toList) = false := beq_eq_false_iff_ne.mpr c5
      have c5b1 : ((rdOf ByteArray.empty l0 x5_1).toList != a1.toList) = true := bne_iff_ne.mpr c5
      have H' := zA H
      clear H
      have p156 : 0 ≤ (x5_1 : Int) := yF apB
      have q156 : x5_1 < (l0.length : Int) := yF apB
      obtain ⟨ad156, e156, hx156_0⟩ := Kd.at_string HR0.out x5_1 p156 q156
      cases e156
      replace p156 := eq_true p156
      replace q156 := eq_true q156
      go_wp2
      go_roundg k1
      case measure => have := HK1.out; omega
      case rel => exact ⟨(wrap64 (x5_1 + 1)), apC, H', ⟨by have := HK1.out; omega⟩, apF⟩
    ·rw [if_neg c4] at H
     exact absurd H (by simp)
   ·rw [if_neg c3] at H
    have c3b0 : decide (x5_1 < (l0.length : Int)) = false := decide_eq_false c3
    clear c3
    obtain rfl := yG H
    go_wp2
    go_ret
    exact ⟨apC, apF⟩


def spec_l2Words.f  : Option (List ByteArray) := some (([(⟨#[110, 117, 108, 108]⟩ : ByteArray), (⟨#[116, 114, 117, 101]⟩ : ByteArray), (⟨#[102, 97, 108, 115, 101]⟩ : ByteArray), (⟨#[105, 102]⟩ : ByteArray), (⟨#[116, 104, 101, 110]⟩ : ByteArray), (⟨#[101, 108, 115, 101]⟩ : ByteArray), (⟨#[108, 111, 99, 97, 108]⟩ : ByteArray), (⟨#[102, 117, 110, 99, 116, 105, 111, 110]⟩ : ByteArray), (⟨#[115, 101, 108, 102]⟩ : ByteArray), (⟨#[115, 117, 112, 101, 114]⟩ : ByteArray), (⟨#[101, 114, 114, 111, 114]⟩ : ByteArray), (⟨#[105, 109, 112, 111, 114, 116]⟩ : ByteArray), (⟨#[102, 111, 114]⟩ : ByteArray), (⟨#[105, 110]⟩ : ByteArray), (⟨#[115, 116, 100]⟩ : ByteArray)] : List ByteArray))
set_option maxHeartbeats 8000000 in
set_option maxRecDepth 100000 in
theorem spec_l2Words.calls  (r : List ByteArray) (w : World) (h : spec_l2Words.f  = some r) :
  Calls Tryd.prog 71 #[] w fun e w' => ∃ v0_ : Value, e = .returned (v0_) ∧ Kd.R Kd.string 9 w' w.heap.size (fun _ => True) v0_ r ∧ Below w.heap.size w w' := by
 have HB := zA (yH w.heap.size w)
 have H : (some (([(⟨#[110, 117, 108, 108]⟩ : ByteArray), (⟨#[116, 114, 117, 101]⟩ : ByteArray), (⟨#[102, 97, 108, 115, 101]⟩ : ByteArray), (⟨#[105, 102]⟩ : ByteArray), (⟨#[116, 104, 101, 110]⟩ : ByteArray), (⟨#[101, 108, 115, 101]⟩ : ByteArray), (⟨#[108, 111, 99, 97, 108]⟩ : ByteArray), (⟨#[102, 117, 110, 99, 116, 105, 111, 110]⟩ : ByteArray), (⟨#[115, 101, 108, 102]⟩ : ByteArray), (⟨#[115, 117, 112, 101, 114]⟩ : ByteArray), (⟨#[101, 114, 114, 111, 114]⟩ : ByteArray), (⟨#[105, 109, 112, 111, 114, 116]⟩ : ByteArray), (⟨#[102, 111, 114]⟩ : ByteArray), (⟨#[105, 110]⟩ : ByteArray), (⟨#[115, 116, 100]⟩ : ByteArray)] : List ByteArray))) = some r := h
 clear h
 obtain ⟨y153, hy153⟩ : ∃ y_ : List ByteArray, y_ = (([(⟨#[110, 117, 108, 108]⟩ : ByteArray), (⟨#[116, 114, 117, 101]⟩ : ByteArray), (⟨#[102, 97, 108, 115, 101]⟩ : ByteArray), (⟨#[105, 102]⟩ : ByteArray), (⟨#[116, 104, 101, 110]⟩ : ByteArray), (⟨#[101, 108, 115, 101]⟩ : ByteArray), (⟨#[108, 111, 99, 97, 108]⟩ : ByteArray), (⟨#[102, 117, 110, 99, 116, 105, 111, 110]⟩ : ByteArray), (⟨#[115, 101, 108, 102]⟩ : ByteArray), (⟨#[115, 117, 112, 101, 114]⟩ : ByteArray), (⟨#[101, 114, 114, 111, 114]⟩ : ByteArray), (⟨#[105, 109, 112, 111, 114, 116]⟩ : ByteArray), (⟨#[102, 111, 114]⟩ : ByteArray), (⟨#[105, 110]⟩ : ByteArray), (⟨#[115, 116, 100]⟩ : ByteArray)] : List ByteArray)) := ⟨_, rfl⟩
 replace H : (some y153) = some r := by first | (rw [hy153]; with_reducible exact H) | (have H2_ := (Option.bind_some _ _).symm.trans H; rw [hy153]; with_reducible exact H2_) | (have H2_ := (Option.bind_some _ _).symm.trans H; with_reducible exact H2_) | with_reducible exact H | (rw [hy153]; exact H) | exact H
 have Ny153 := zA hy153
 clear hy153
 obtain rfl := yG H
 go_enter Tryd.func71, Tryd.ntmps71
 go_wp2_with (first | ((with_reducible refine zS (N := 1) rfl ?_); refine Kd.R_lit Kd.string _ 9 ?hg (N := 1) ?hd (xs := ([(⟨#[110, 117, 108, 108]⟩ : ByteArray), (⟨#[116, 114, 117, 101]⟩ : ByteArray), (⟨#[102, 97, 108, 115, 101]⟩ : ByteArray), (⟨#[105, 102]⟩ : ByteArray), (⟨#[116, 104, 101, 110]⟩ : ByteArray), (⟨#[101, 108, 115, 101]⟩ : ByteArray), (⟨#[108, 111, 99, 97, 108]⟩ : ByteArray), (⟨#[102, 117, 110, 99, 116, 105, 111, 110]⟩ : ByteArray), (⟨#[115, 101, 108, 102]⟩ : ByteArray), (⟨#[115, 117, 112, 101, 114]⟩ : ByteArray), (⟨#[101, 114, 114, 111, 114]⟩ : ByteArray), (⟨#[105, 109, 112, 111, 114, 116]⟩ : ByteArray), (⟨#[102, 111, 114]⟩ : ByteArray), (⟨#[105, 110]⟩ : ByteArray), (⟨#[115, 116, 100]⟩ : ByteArray)] : List ByteArray)) (inner := [.string (⟨#[110, 117, 108, 108]⟩ : ByteArray), .string (⟨#[116, 114, 117, 101]⟩ : ByteArray), .string (⟨#[102, 97, 108, 115, 101]⟩ : ByteArray), .string (⟨#[105, 102]⟩ : ByteArray), .string (⟨#[116, 104, 101, 110]⟩ : ByteArray), .string (⟨#[101, 108, 115, 101]⟩ : ByteArray), .string (⟨#[108, 111, 99, 97, 108]⟩ : ByteArray), .string (⟨#[102, 117, 110, 99, 116, 105, 111, 110]⟩ : ByteArray), .string (⟨#[115, 101, 108, 102]⟩ : ByteArray), .string (⟨#[115, 117, 112, 101, 114]⟩ : ByteArray), .string (⟨#[101, 114, 114, 111, 114]⟩ : ByteArray), .string (⟨#[105, 109, 112, 111, 114, 116]⟩ : ByteArray), .string (⟨#[102, 111, 114]⟩ : ByteArray), .string (⟨#[105, 110]⟩ : ByteArray), .string (⟨#[115, 116, 100]⟩ : ByteArray)]) (ok := fun _ => True) (okp := fun _ => True) ?hr ?hp (fun _ hk => hk) trivial (yH _ _) (yJ _) (by simp) ?_; (case hd => rfl); (case hg => rfl); (case hr => first | (go_simp; done) | (go_simp; rfl)); (case hp => exact (Reps.one (show Kd.M Kd.string _ _ _ (⟨#[110, 117, 108, 108]⟩ : ByteArray) [.string (⟨#[110, 117, 108, 108]⟩ : ByteArray)] from rfl) (Reps.one (show Kd.M Kd.string _ _ _ (⟨#[116, 114, 117, 101]⟩ : ByteArray) [.string (⟨#[116, 114, 117, 101]⟩ : ByteArray)] from rfl) (Reps.one (show Kd.M Kd.string _ _ _ (⟨#[102, 97, 108, 115, 101]⟩ : ByteArray) [.string (⟨#[102, 97, 108, 115, 101]⟩ : ByteArray)] from rfl) (Reps.one (show Kd.M Kd.string _ _ _ (⟨#[105, 102]⟩ : ByteArray) [.string (⟨#[105, 102]⟩ : ByteArray)] from rfl) (Reps.one (show Kd.M Kd.string _ _ _ (⟨#[116, 104, 101, 110]⟩ : ByteArray) [.string (⟨#[116, 104, 101, 110]⟩ : ByteArray)] from rfl) (Reps.one (show Kd.M Kd.string _ _ _ (⟨#[101, 108, 115, 101]⟩ : ByteArray) [.string (⟨#[101, 108, 115, 101]⟩ : ByteArray)] from rfl) (Reps.one (show Kd.M Kd.string _ _ _ (⟨#[108, 111, 99, 97, 108]⟩ : ByteArray) [.string (⟨#[108, 111, 99, 97, 108]⟩ : ByteArray)] from rfl) (Reps.one (show Kd.M Kd.string _ _ _ (⟨#[102, 117, 110, 99, 116, 105, 111, 110]⟩ : ByteArray) [.string (⟨#[102, 117, 110, 99, 116, 105, 111, 110]⟩ : ByteArray)] from rfl) (Reps.one (show Kd.M Kd.string _ _ _ (⟨#[115, 101, 108, 102]⟩ : ByteArray) [.string (⟨#[115, 101, 108, 102]⟩ : ByteArray)] from rfl) (Reps.one (show Kd.M Kd.string _ _ _ (⟨#[115, 117, 112, 101, 114]⟩ : ByteArray) [.string (⟨#[115, 117, 112, 101, 114]⟩ : ByteArray)] from rfl) (Reps.one (show Kd.M Kd.string _ _ _ (⟨#[101, 114, 114, 111, 114]⟩ : ByteArray) [.string (⟨#[101, 114, 114, 111, 114]⟩ : ByteArray)] from rfl) (Reps.one (show Kd.M Kd.string _ _ _ (⟨#[105, 109, 112, 111, 114, 116]⟩ : ByteArray) [.string (⟨#[105, 109, 112, 111, 114, 116]⟩ : ByteArray)] from rfl) (Reps.one (show Kd.M Kd.string _ _ _ (⟨#[102, 111, 114]⟩ : ByteArray) [.string (⟨#[102, 111, 114]⟩ : ByteArray)] from rfl) (Reps.one (show Kd.M Kd.string _ _ _ (⟨#[105, 110]⟩ : ByteArray) [.string (⟨#[105, 110]⟩ : ByteArray)] from rfl) (Reps.one (show Kd.M Kd.string _ _ _ (⟨#[115, 116, 100]⟩ : ByteArray) [.string (⟨#[115, 116, 100]⟩ : ByteArray)] from rfl) (Reps.none _ _))))))))))))))))); intro v154 w1 ho2 hb hg_ hnew_; clear hg_ hnew_; (first | rw [← Ny153.out] at ho2 | (simp only [Int.reduceToNat] at ho2; rw [← Ny153.out] at ho2)); have HO155 := zA (Kd.R_lower ho2 (zQ apA)); replace HB := zA (zP apA hb); clear hb ho2))
 go_ret
 exact ⟨_, apD, vwR HO155.out, apA⟩


def spec_NameOk.f (k : Nat) (a0 : ByteArray) : Option (Bool) := (spec_l2Letters.f k a0).bind fun t157 => (if t157 = true then ((spec_l2Words.f).bind fun t158 => ((spec_l2Has.f k t158 a0).bind fun t161 => (some (!t161)))) else (some false))
theorem spec_NameOk.mono : ∀ a0 k, LeO (spec_NameOk.f k a0) (spec_NameOk.f (k + 1) a0) := by
 intro a0 k
 unfold spec_NameOk.f
 repeat' first
   | (with_reducible exact spec_l2Has.mono _ _ _)
   | (with_reducible exact spec_l2Letters.mono _ _)
   | (with_reducible exact LeO.refl _)
   | (with_reducible exact LeO.none _)
   | (with_reducible refine LeO.ite ?_ ?_)
   | (with_reducible refine LeO.bind ?_ (fun _ => ?_))
set_option maxHeartbeats 8000000 in
set_option maxRecDepth 100000 in
theorem spec_NameOk.calls (k : Nat) (a0 : ByteArray) (r : Bool) (w : World) (h : spec_NameOk.f k a0 = some r) :
  Calls Tryd.prog 56 #[.string a0] w fun e w' => e = .returned (.bool r) ∧ Below w.heap.size w w' := by
 have HB := zA (yH w.heap.size w)
 have H : ((spec_l2Letters.f k a0).bind fun t157 => (if t157 = true then ((spec_l2Words.f).bind fun t158 => ((spec_l2Has.f k t158 a0).bind fun t161 => (some (!t161)))) else (some false))) = some r := h
 clear h
 replace H := Option.bind_eq_some_iff.mp H
 obtain ⟨t157, A20, H⟩ := H
 have A2 := zA A20
 clear A20
 by_cases c3 : t157 = true
 ·subst c3
  have H1 := H; rw [if_pos rfl] at H1
  clear H
  have H := H1
  clear H1
  replace H := Option.bind_eq_some_iff.mp H
  obtain ⟨t158, A40, H⟩ := H
  have A4 := zA A40
  clear A40
  replace H := Option.bind_eq_some_iff.mp H
  obtain ⟨t161, A50, H⟩ := H
  have A5 := zA A50
  clear A50
  obtain rfl := yG H
  go_enter Tryd.func56, Tryd.ntmps56
  go_wp2_with (first | ((with_reducible refine zT (f := 69) rfl ?_); refine goesL_ (some 4) rfl rfl Tryd.func69 (by kernel_rfl) rfl #[.string a0] rfl apE ?_; (with_reducible refine (spec_l2Letters.calls k a0 true _ A2.out).mono ?_); rintro e w' ⟨rfl, ⟨nd, rfl⟩⟩; refine ⟨_, rfl, ?_⟩) | (go_at_call 71; (with_reducible refine (spec_l2Words.calls  t158 _ A4.out).mono ?_); rintro e w6 ⟨v159, rfl, ho0, hb⟩; have HO160 := zA (Kd.R_lower ho0 (zQ apA)); replace HB := zA (zP apA hb); (try clear hb); (try clear hb2); (try clear hk); (try clear hi); (try clear ho0); obtain ⟨Ao7, co7, eo7⟩ := Kd.R_slice HO160.out; subst eo7) | (go_at_call 70; (with_reducible refine (spec_l2Has.calls k _ _ t158 a0 t161 _ ?side1 ?side2 A5.out).mono ?_); (case side1 => exact vc (Kd.R_reads' HO160.out).2.2); (case side2 => exact (Kd.R_reads' HO160.out).2.1); rintro e w' ⟨rfl, ⟨nd, rfl⟩⟩))
  go_ret
  exact ⟨apD, apA⟩
 ·replace c3 := Bool.eq_false_iff.mpr c3
  subst c3
  have H1 := H; rw [if_neg (show ¬ (false = true) by decide)] at H1
  clear H
  have H := H1
  clear H1
  obtain rfl := yG H
  go_enter Tryd.func56, Tryd.ntmps56
  go_wp2_with (first | ((with_reducible refine zT (f := 69) rfl ?_); refine goesL_ (some 4) rfl rfl Tryd.func69 (by kernel_rfl) rfl #[.string a0] rfl apE ?_; (with_reducible refine (spec_l2Letters.calls k a0 false _ A2.out).mono ?_); rintro e w' ⟨rfl, ⟨nd, rfl⟩⟩; refine ⟨_, rfl, ?_⟩))
  go_ret
  exact ⟨apD, apA⟩


noncomputable abbrev kPow := kTab Tryd.prog "internal/strconv.uint64pow10" .u64 Lib.pow10Tab
def strconv_Itoa.f (a0 : Int) (l1 : List Int) : Option (ByteArray) := if -9223372036854775808 ≤ a0 ∧ a0 ≤ 9223372036854775807 then some (⟨(Lib.itoa a0).toArray⟩) else none
theorem strconv_Itoa.calls (a0 : Int) (A1 : Option Addr) (c1 : Nat) (l1 : List Int) (r : ByteArray) (w : World) (hr1 : Kd.C kPow w A1 l1.length l1) (hc1 : l1.length ≤ c1) (hg1 : A1 = some ⟨2, 0, none⟩ ∧ l1 = [1]) (h : strconv_Itoa.f a0 l1 = some r) :
  Calls Tryd.prog 61 #[.int .i64 a0] w fun e w' => e = .returned (.string r) ∧ Below w.heap.size w w' := by
 obtain ⟨_, rfl⟩ := hg1
 unfold strconv_Itoa.f at h
 split at h
 ·rename_i hh
  have h2 := yG h
  subst h2
  refine (Tryd.strconv_Itoa a0 hh.1 hh.2 w (tab_of hr1)).mono ?_
  rintro e w' ⟨rfl, k, os, rfl⟩
  exact ⟨rfl, Lib.below_grow _ _ (yJ _) _ _⟩
 ·cases h


def laws_szStringS.l0 : Nat → List ByteArray → Int → Int → Option (Int)
 | 0, _, _, _ => none
 | k + 1, x0, x1, x5 => if x5 < (x0.length : Int) then (if 0 ≤ x5 then (if (wrap64 (x1 - ((rdOf ByteArray.empty x0 x5).size : Int))) < 0 then (some (-1)) else (laws_szStringS.l0 k x0 (wrap64 (x1 - ((rdOf ByteArray.empty x0 x5).size : Int))) (wrap64 (x5 + 1)))) else (none)) else (some x1)
def laws_szStringS.f (k : Nat) (l0 : List ByteArray) (a1 : Int) : Option (Int) := if (wrap64 (a1 - (l0.length : Int))) < 0 then (some (-1)) else (laws_szStringS.l0 k l0 (wrap64 (a1 - (l0.length : Int))) 0)
theorem laws_szStringS.mono_l : ∀ k, (∀ y0 y1 y2, LeO (laws_szStringS.l0 k y0 y1 y2) (laws_szStringS.l0 (k + 1) y0 y1 y2))
 | 0 => fun _ _ _ r h => by simp [laws_szStringS.l0] at h
 | k + 1 => by
  have ih0 := laws_szStringS.mono_l k
  ·intro y0 y1 y2
   unfold laws_szStringS.l0
   repeat' first
   | (with_reducible exact ih0 _ _ _)
   | (with_reducible exact LeO.refl _)
   | (with_reducible exact LeO.none _)
   | (with_reducible refine LeO.ite ?_ ?_)
   | (with_reducible refine LeO.bind ?_ (fun _ => ?_))
   | exact ih0 _ _ _
theorem laws_szStringS.mono : ∀ a0 a1 k, LeO (laws_szStringS.f k a0 a1) (laws_szStringS.f (k + 1) a0 a1) := by
 intro a0 a1 k
 have ih0 := laws_szStringS.mono_l k
 unfold laws_szStringS.f
 repeat' first
   | (with_reducible exact ih0 _ _ _)
   | (with_reducible exact LeO.refl _)
   | (with_reducible exact LeO.none _)
   | (with_reducible refine LeO.ite ?_ ?_)
   | (with_reducible refine LeO.bind ?_ (fun _ => ?_))
   | exact ih0 _ _ _
set_option maxHeartbeats 8000000 in
set_option maxRecDepth 100000 in
theorem laws_szStringS.calls (k : Nat) (A0 : Option Addr) (c0 : Nat) (l0 : List ByteArray) (a1 : Int) (r : Int) (w : World) (hr0 : Kd.C Kd.string w A0 l0.length l0) (hc0 : l0.length ≤ c0) (h : laws_szStringS.f k l0 a1 = some r) :
  Calls Tryd.prog 10 #[.slice A0 l0.length c0, .int .i64 a1] w fun e w' => e = .returned (.int .i64 r) ∧ Drawn0 w w' := by
 have HR0 := zA hr0
 have HC0 := zA hc0
 clear hr0 hc0
 have H : (if (wrap64 (a1 - (l0.length : Int))) < 0 then (some (-1)) else (laws_szStringS.l0 k l0 (wrap64 (a1 - (l0.length : Int))) 0)) = some r := h
 clear h
 by_cases c3 : (wrap64 (a1 - (l0.length : Int))) < 0
 ·rw [if_pos c3] at H
  have c3b0 : decide ((wrap64 (a1 - (l0.length : Int))) < 0) = true := yE c3
  clear c3
  obtain rfl := yG H
  go_enter Tryd.func10, Tryd.ntmps10
  go_wp2
  go_ret
  exact ⟨apC, apF⟩
 ·rw [if_neg c3] at H
  have c3b0 : decide ((wrap64 (a1 - (l0.length : Int))) < 0) = false := decide_eq_false c3
  clear c3
  have H' := zA H
  clear H
  go_enter Tryd.func10, Tryd.ntmps10
  go_wp2
  go_loopg [1, 5] k (fun kq v1 v5 w' => ∃ (x1_1 : Int) (x5_1 : Int), v1 = .int .i64 x1_1 ∧ v5 = .int .i64 x5_1 ∧ Aside0 (laws_szStringS.l0 kq l0 x1_1 x5_1 = some r) ∧ Aside0 (kq ≤ k) ∧ Drawn0 w w')
  case atStart => exact ⟨(wrap64 (a1 - (l0.length : Int))), (0), apC, apC, H', ⟨yJ _⟩, apF⟩
  case round =>
   clear H'
   try clear c1 p2 c3 c3b0
   obtain ⟨x1_1, x5_1, rfl, rfl, HA, HK1, ⟨m1, rfl⟩⟩ := hrel
   cases gk with
   | zero => exact absurd HA.out (by simp [laws_szStringS.l0])
   | succ k1 =>
    have H := HA.out
    clear HA
    simp only [laws_szStringS.l0] at H
    by_cases c4 : x5_1 < (l0.length : Int)
    ·rw [if_pos c4] at H
     have c4b0 : decide (x5_1 < (l0.length : Int)) = true := yE c4
     clear c4
     by_cases c5 : 0 ≤ x5_1
     ·rw [if_pos c5] at H
      have c5b0 : decide (0 ≤ x5_1) = true := yE c5
      clear c5
      by_cases c6 : (wrap64 (x1_1 - ((rdOf ByteArray.empty l0 x5_1).size : Int))) < 0
      ·rw [if_pos c6] at H
       have c6b0 : decide ((wrap64 (x1_1 - ((rdOf ByteArray.empty l0 x5_1).size : Int))) < 0) = true := yE c6
       clear c6
       obtain rfl := yG H
       have p101 : 0 ≤ (x5_1 : Int) := yF apB
       have q101 : x5_1 < (l0.length : Int) := yF apB
       obtain ⟨ad101, e101, hx101_0⟩ := Kd.at_string HR0.out x5_1 p101 q101
       cases e101
       replace p101 := eq_true p101
       replace q101 := eq_true q101
       go_wp2
       go_ret
       exact ⟨apC, apF⟩
      ·rw [if_neg c6] at H
       have c6b0 : decide ((wrap64 (x1_1 - ((rdOf ByteArray.empty l0 x5_1).size : Int))) < 0) = false := decide_eq_false c6
       clear c6
       have H' := zA H
       clear H
       have p101 : 0 ≤ (x5_1 : Int) := yF apB
       have q101 : x5_1 < (l0.length : Int) := yF apB
       obtain ⟨ad101, e101, hx101_0⟩ := Kd.at_string HR0.out x5_1 p101 q101
       cases e101
       replace p101 := eq_true p101
       replace q101 := eq_true q101
       go_wp2
       go_roundg k1
       case measure => have := HK1.out; omega
       case rel => exact ⟨(wrap64 (x1_1 - ((rdOf ByteArray.empty l0 x5_1).size : Int))), (wrap64 (x5_1 + 1)), apC, apC, H', ⟨by have := HK1.out; omega⟩, apF⟩
     ·rw [if_neg c5] at H
      exact absurd H (by simp)
    ·rw [if_neg c4] at H
     have c4b0 : decide (x5_1 < (l0.length : Int)) = false := decide_eq_false c4
     clear c4
     obtain rfl := yG H
     go_wp2
     go_ret
     exact ⟨apC, apF⟩


def laws_toStringS.l0 : Nat → List ByteArray → List ByteArray → Int → Option (List ByteArray)
 | 0, _, _, _ => none
 | k + 1, x0, x3, x4 => if x4 < (x0.length : Int) then (if 0 ≤ x4 then (if x4 < (x3.length : Int) then (laws_toStringS.l0 k x0 (x3.set (x4 : Int).toNat (rdOf ByteArray.empty x0 x4)) (wrap64 (x4 + 1))) else (none)) else (none)) else (some x3)
def laws_toStringS.f (k : Nat) (l0 : List ByteArray) : Option (List ByteArray) := if 0 ≤ (l0.length : Int) then (if ((l0.length : Int) : Int).toNat ≤ 17592186044416 then (laws_toStringS.l0 k l0 (List.replicate ((l0.length : Int) : Int).toNat (⟨#[]⟩ : ByteArray)) 0) else (none)) else (none)
theorem laws_toStringS.mono_l : ∀ k, (∀ y0 y1 y2, LeO (laws_toStringS.l0 k y0 y1 y2) (laws_toStringS.l0 (k + 1) y0 y1 y2))
 | 0 => fun _ _ _ r h => by simp [laws_toStringS.l0] at h
 | k + 1 => by
  have ih0 := laws_toStringS.mono_l k
  ·intro y0 y1 y2
   unfold laws_toStringS.l0
   repeat' first
   | (with_reducible exact ih0 _ _ _)
   | (with_reducible exact LeO.refl _)
   | (with_reducible exact LeO.none _)
   | (with_reducible refine LeO.ite ?_ ?_)
   | (with_reducible refine LeO.bind ?_ (fun _ => ?_))
   | exact ih0 _ _ _
theorem laws_toStringS.mono : ∀ a0 k, LeO (laws_toStringS.f k a0) (laws_toStringS.f (k + 1) a0) := by
 intro a0 k
 have ih0 := laws_toStringS.mono_l k
 unfold laws_toStringS.f
 repeat' first
   | (with_reducible exact ih0 _ _ _)
   | (with_reducible exact LeO.refl _)
   | (with_reducible exact LeO.none _)
   | (with_reducible refine LeO.ite ?_ ?_)
   | (with_reducible refine LeO.bind ?_ (fun _ => ?_))
   | exact ih0 _ _ _
set_option maxHeartbeats 8000000 in
set_option maxRecDepth 100000 in
theorem laws_toStringS.calls (k : Nat) (A0 : Option Addr) (c0 : Nat) (l0 : List ByteArray) (r : List ByteArray) (w : World) (hr0 : Kd.C Kd.string w A0 l0.length l0) (hc0 : l0.length ≤ c0) (h : laws_toStringS.f k l0 = some r) :
  Calls Tryd.prog 16 #[.slice A0 l0.length c0] w fun e w' => ∃ v0_ : Value, e = .returned (v0_) ∧ Kd.R Kd.string 9 w' w.heap.size (fun _ => True) v0_ r ∧ Below w.heap.size w w' := by
 have HR0 := zA hr0
 have HC0 := zA hc0
 clear hr0 hc0
 have HB := zA (yH w.heap.size w)
 have H : (if 0 ≤ (l0.length : Int) then (if ((l0.length : Int) : Int).toNat ≤ 17592186044416 then (laws_toStringS.l0 k l0 (List.replicate ((l0.length : Int) : Int).toNat (⟨#[]⟩ : ByteArray)) 0) else (none)) else (none)) = some r := h
 clear h
 by_cases c2 : 0 ≤ (l0.length : Int)
 ·rw [if_pos c2] at H
  have c2b0 := eq_true c2
  have c2b1 : decide (0 ≤ (l0.length : Int)) = true := yE c2
  clear c2
  by_cases c3 : ((l0.length : Int) : Int).toNat ≤ 17592186044416
  ·rw [if_pos c3] at H
   have c3b0 := eq_true c3
   have c3b1 : decide (((l0.length : Int) : Int).toNat ≤ 17592186044416) = true := yE c3
   clear c3
   obtain ⟨y110, hy110⟩ : ∃ y_ : List ByteArray, y_ = (List.replicate ((l0.length : Int) : Int).toNat (⟨#[]⟩ : ByteArray)) := ⟨_, rfl⟩
   replace H : (laws_toStringS.l0 k l0 y110 0) = some r := by first | (rw [hy110]; with_reducible exact H) | (have H2_ := (Option.bind_some _ _).symm.trans H; rw [hy110]; with_reducible exact H2_) | (have H2_ := (Option.bind_some _ _).symm.trans H; with_reducible exact H2_) | with_reducible exact H | (rw [hy110]; exact H) | exact H
   have Ny110 := zA hy110
   clear hy110
   have H' := zA H
   clear H
   go_enter Tryd.func16, Tryd.ntmps16
   go_wp2_with (first | ((with_reducible refine zS (N := 7) rfl ?_); refine Kd.R_make Kd.string _ 9 rfl (N := 7) rfl 25 _ _ rfl (l0.length : Int) rfl rfl Tryd.underlying25 (.string ⟨#[]⟩) 16 info9 rfl (by decide) (by omega) (⟨#[]⟩ : ByteArray) (ok := fun _ => True) (okp := fun _ => True) rfl (fun _ hk => hk) trivial (yF apB) (Nat.le_trans (Nat.mul_le_mul_right _ (yF apB : (l0.length : Int).toNat ≤ 17592186044416)) (by omega)) (yH _ _) (yJ _) ?_; intro v111 w4 ho5 hb hg_ hnew_; clear hg_ hnew_; (first | rw [← Ny110.out] at ho5 | (simp only [Int.reduceToNat] at ho5; rw [← Ny110.out] at ho5)); have HO112 := zA (Kd.R_lower ho5 (zQ apA)); replace HB := zA (zP apA hb); clear hb ho5))
   go_loopg [4] k (fun kq v4 w' => ∃ (x3_1 : List ByteArray) (x4_1 : Int), v4 = .int .i64 x4_1 ∧ Aside0 (laws_toStringS.l0 kq l0 x3_1 x4_1 = some r) ∧ Aside0 (kq ≤ k) ∧ Aside0 (Kd.R Kd.string 9 w' w.heap.size (fun _ => True) v111 x3_1) ∧ Aside0 (Below w.heap.size w w'))
   case atStart => exact ⟨(y110), (0), apC, H', ⟨yJ _⟩, ⟨vwR HO112.out⟩, ⟨apA⟩⟩
   case round =>
    clear H'
    try clear c1 c2 c2b0 c2b1 p2 c3 c3b0 c3b1
    obtain ⟨x3_1, x4_1, rfl, HA, HK1, HO_3, HB⟩ := hrel
    cases gk with
    | zero => exact absurd HA.out (by simp [laws_toStringS.l0])
    | succ k1 =>
     have H := HA.out
     clear HA
     simp only [laws_toStringS.l0] at H
     by_cases c6 : x4_1 < (l0.length : Int)
     ·rw [if_pos c6] at H
      have c6b0 : decide (x4_1 < (l0.length : Int)) = true := yE c6
      clear c6
      by_cases c7 : 0 ≤ x4_1
      ·rw [if_pos c7] at H
       have c7b0 : decide (0 ≤ x4_1) = true := yE c7
       clear c7
       by_cases c8 : x4_1 < (x3_1.length : Int)
       ·rw [if_pos c8] at H
        have c8b0 : decide (x4_1 < (x3_1.length : Int)) = true := yE c8
        clear c8
        obtain ⟨y114, hy114⟩ : ∃ y_ : List ByteArray, y_ = (x3_1.set (x4_1 : Int).toNat (rdOf ByteArray.empty l0 x4_1)) := ⟨_, rfl⟩
        replace H : (laws_toStringS.l0 k1 l0 y114 (wrap64 (x4_1 + 1))) = some r := by first | (rw [hy114]; with_reducible exact H) | (have H2_ := (Option.bind_some _ _).symm.trans H; rw [hy114]; with_reducible exact H2_) | (have H2_ := (Option.bind_some _ _).symm.trans H; with_reducible exact H2_) | with_reducible exact H | (rw [hy114]; exact H) | exact H
        have Ny114 := zA hy114
        clear hy114
        have H' := zA H
        clear H
        have p113 : 0 ≤ (x4_1 : Int) := yF apB
        have q113 : x4_1 < (l0.length : Int) := yF apB
        obtain ⟨ad113, e113, hx113_0⟩ := Kd.at_string HR0.out x4_1 p113 q113
        cases e113
        replace hx113_0 := (HB.out.cell (zR w _ hx113_0)).trans hx113_0
        replace p113 := eq_true p113
        replace q113 := eq_true q113
        have p9 : 0 ≤ (x4_1 : Int) := yF apB
        have q9 : (x4_1 : Int) < ((x3_1.length : Int) : Int) := yF apB
        obtain ⟨go9, co9, eo9, gb9, gl9, cl9, HG9⟩ := Kd.R_form HO_3.out (by omega)
        (first | cases eo9 | (injection eo9 with ea_ en_ ec_; (first | subst ea_ | (injection ea_ with ea_; subst ea_)); subst ec_; clear en_))
        have GB9 := zA gb9
        have GG9 := zA HG9
        clear gb9 gl9 HG9
        obtain ⟨hx9_0, hf9_0⟩ := Kd.R_celln (⟨#[]⟩ : ByteArray) HO_3.out (x4_1 : Int) p9 q9
        replace p9 := eq_true p9
        replace q9 := eq_true q9
        have HP10 := Kd.R_putg HO_3.out (x4_1 : Int) (rdOf ByteArray.empty l0 x4_1)
        go_wp2_with (first | ((with_reducible refine zV (t := 9) (p := 20) rfl ?_); refine zX (t := 9) (p := 20) (v := ?vo_w11) (w1 := (wr.setCell ⟨go9, (x4_1 : Int).toNat, none⟩ (.string (rdOf ByteArray.empty l0 x4_1)))) ?hg ?ho ?hn ?hr ?_; (case ho => rfl); (case hg => rfl); (case hn => rfl); (case hr => first | (go_simp; done) | (go_simp; rfl) | (go_simp; done)); intro w11 hw; have hg : wr.grownBy w11 (some go9) := (by rw [hw]; exact HP10.2); have hp_ : Kd.R Kd.string 9 w11 w.heap.size (fun _ => True) (.slice (some ⟨go9, 0, none⟩) x3_1.length co9) y114 := (by rw [hw, Ny114.out]; exact HP10.1); clear HP10; replace HO_3 := zA (hp_); replace HB := zA ((by rw [hw]; exact zH (HB.out) GB9.out : Below w.heap.size w w11)); clear hg hw hp_))
        go_roundg k1
        case measure => have := HK1.out; omega
        case rel => exact ⟨(y114), (wrap64 (x4_1 + 1)), apC, H', ⟨by have := HK1.out; omega⟩, ⟨vwR HO_3.out⟩, ⟨apA⟩⟩
       ·rw [if_neg c8] at H
        exact absurd H (by simp)
      ·rw [if_neg c7] at H
       exact absurd H (by simp)
     ·rw [if_neg c6] at H
      have c6b0 : decide (x4_1 < (l0.length : Int)) = false := decide_eq_false c6
      clear c6
      obtain rfl := yG H
      go_wp2
      go_ret
      exact ⟨_, apD, vwR HO_3.out, apA⟩
  ·rw [if_neg c3] at H
   exact absurd H (by simp)
 ·rw [if_neg c2] at H
  exact absurd H (by simp)


def laws_eqStringS.l0 : Nat → List ByteArray → List ByteArray → Int → Option (Bool)
 | 0, _, _, _ => none
 | k + 1, x0, x1, x5 => if x5 < (x0.length : Int) then (if 0 ≤ x5 then (if x5 < (x1.length : Int) then (if (rdOf ByteArray.empty x0 x5).toList = (rdOf ByteArray.empty x1 x5).toList then (laws_eqStringS.l0 k x0 x1 (wrap64 (x5 + 1))) else (some false)) else (none)) else (none)) else (some true)
def laws_eqStringS.f (k : Nat) (l0 : List ByteArray) (l1 : List ByteArray) : Option (Bool) := if (l0.length : Int) = (l1.length : Int) then (laws_eqStringS.l0 k l0 l1 0) else (some false)
theorem laws_eqStringS.mono_l : ∀ k, (∀ y0 y1 y2, LeO (laws_eqStringS.l0 k y0 y1 y2) (laws_eqStringS.l0 (k + 1) y0 y1 y2))
 | 0 => fun _ _ _ r h => by simp [laws_eqStringS.l0] at h
 | k + 1 => by
  have ih0 := laws_eqStringS.mono_l k
  ·intro y0 y1 y2
   unfold laws_eqStringS.l0
   repeat' first
   | (with_reducible exact ih0 _ _ _)
   | (with_reducible exact LeO.refl _)
   | (with_reducible exact LeO.none _)
   | (with_reducible refine LeO.ite ?_ ?_)
   | (with_reducible refine LeO.bind ?_ (fun _ => ?_))
   | exact ih0 _ _ _
theorem laws_eqStringS.mono : ∀ a0 a1 k, LeO (laws_eqStringS.f k a0 a1) (laws_eqStringS.f (k + 1) a0 a1) := by
 intro a0 a1 k
 have ih0 := laws_eqStringS.mono_l k
 unfold laws_eqStringS.f
 repeat' first
   | (with_reducible exact ih0 _ _ _)
   | (with_reducible exact LeO.refl _)
   | (with_reducible exact LeO.none _)
   | (with_reducible refine LeO.ite ?_ ?_)
   | (with_reducible refine LeO.bind ?_ (fun _ => ?_))
   | exact ih0 _ _ _
set_option maxHeartbeats 8000000 in
set_option maxRecDepth 100000 in
theorem laws_eqStringS.calls (k : Nat) (A0 : Option Addr) (c0 : Nat) (l0 : List ByteArray) (A1 : Option Addr) (c1 : Nat) (l1 : List ByteArray) (r : Bool) (w : World) (hr0 : Kd.C Kd.string w A0 l0.length l0) (hc0 : l0.length ≤ c0) (hr1 : Kd.C Kd.string w A1 l1.length l1) (hc1 : l1.length ≤ c1) (h : laws_eqStringS.f k l0 l1 = some r) :
  Calls Tryd.prog 21 #[.slice A0 l0.length c0, .slice A1 l1.length c1] w fun e w' => e = .returned (.bool r) ∧ Drawn0 w w' := by
 have HR0 := zA hr0
 have HC0 := zA hc0
 clear hr0 hc0
 have HR1 := zA hr1
 have HC1 := zA hc1
 clear hr1 hc1
 have H : (if (l0.length : Int) = (l1.length : Int) then (laws_eqStringS.l0 k l0 l1 0) else (some false)) = some r := h
 clear h
 by_cases c3 : (l0.length : Int) = (l1.length : Int)
 ·rw [if_pos c3] at H
  have c3b0 : ((l0.length : Int) == (l1.length : Int)) = true := beq_iff_eq.mpr c3
  have c3b1 : ((l0.length : Int) != (l1.length : Int)) = false := bne_eq_false_iff_eq.mpr c3
  have c3b2 : (l0.length == l1.length) = true := by first | simpa using c3 | (simp at c3 ⊢; omega)
  clear c3
  have H' := zA H
  clear H
  go_enter Tryd.func21, Tryd.ntmps21
  go_wp2
  repeat (go_quiet (fail); try go_wp2)
  go_loopg [5] k (fun kq v5 w' => ∃ (x5_1 : Int), v5 = .int .i64 x5_1 ∧ Aside0 (laws_eqStringS.l0 kq l0 l1 x5_1 = some r) ∧ Aside0 (kq ≤ k) ∧ Drawn0 w w')
  case atStart => exact ⟨(0), apC, H', ⟨yJ _⟩, apF⟩
  case round =>
   clear H'
   try clear c1 c2 p2 c3 c3b0 c3b1 c3b2
   obtain ⟨x5_1, rfl, HA, HK1, ⟨m1, rfl⟩⟩ := hrel
   cases gk with
   | zero => exact absurd HA.out (by simp [laws_eqStringS.l0])
   | succ k1 =>
    have H := HA.out
    clear HA
    simp only [laws_eqStringS.l0] at H
    by_cases c4 : x5_1 < (l0.length : Int)
    ·rw [if_pos c4] at H
     have c4b0 : decide (x5_1 < (l0.length : Int)) = true := yE c4
     clear c4
     by_cases c5 : 0 ≤ x5_1
     ·rw [if_pos c5] at H
      have c5b0 : decide (0 ≤ x5_1) = true := yE c5
      clear c5
      by_cases c6 : x5_1 < (l1.length : Int)
      ·rw [if_pos c6] at H
       have c6b0 : decide (x5_1 < (l1.length : Int)) = true := yE c6
       clear c6
       by_cases c7 : (rdOf ByteArray.empty l0 x5_1).toList = (rdOf ByteArray.empty l1 x5_1).toList
       ·rw [if_pos c7] at H
        have c7b0 : ((rdOf ByteArray.empty l0 x5_1).toList == (rdOf ByteArray.empty l1 x5_1).toList) = true := beq_iff_eq.mpr c7
        have c7b1 : ((rdOf ByteArray.empty l0 x5_1).toList != (rdOf ByteArray.empty l1 x5_1).toList) = false := bne_eq_false_iff_eq.mpr c7
        clear c7
        have H' := zA H
        clear H
        have p365 : 0 ≤ (x5_1 : Int) := yF apB
        have q365 : x5_1 < (l0.length : Int) := yF apB
        obtain ⟨ad365, e365, hx365_0⟩ := Kd.at_string HR0.out x5_1 p365 q365
        cases e365
        replace p365 := eq_true p365
        replace q365 := eq_true q365
        have p366 : 0 ≤ (x5_1 : Int) := yF apB
        have q366 : x5_1 < (l1.length : Int) := yF apB
        obtain ⟨ad366, e366, hx366_0⟩ := Kd.at_string HR1.out x5_1 p366 q366
        cases e366
        replace p366 := eq_true p366
        replace q366 := eq_true q366
        go_wp2
        repeat (go_quiet (fail); try go_wp2)
        go_roundg k1
        case measure => have := HK1.out; omega
        case rel => exact ⟨(wrap64 (x5_1 + 1)), apC, H', ⟨by have := HK1.out; omega⟩, apF⟩
       ·rw [if_neg c7] at H
        have c7b0 : ((rdOf ByteArray.empty l0 x5_1).toList == (rdOf ByteArray.empty l1 x5_1).toList) = false := beq_eq_false_iff_ne.mpr c7
        have c7b1 : ((rdOf ByteArray.empty l0 x5_1).toList != (rdOf ByteArray.empty l1 x5_1).toList) = true := bne_iff_ne.mpr c7
        obtain rfl := yG H
        have p365 : 0 ≤ (x5_1 : Int) := yF apB
        have q365 : x5_1 < (l0.length : Int) := yF apB
        obtain ⟨ad365, e365, hx365_0⟩ := Kd.at_string HR0.out x5_1 p365 q365
        cases e365
        replace p365 := eq_true p365
        replace q365 := eq_true q365
        have p366 : 0 ≤ (x5_1 : Int) := yF apB
        have q366 : x5_1 < (l1.length : Int) := yF apB
        obtain ⟨ad366, e366, hx366_0⟩ := Kd.at_string HR1.out x5_1 p366 q366
        cases e366
        replace p366 := eq_true p366
        replace q366 := eq_true q366
        go_wp2
        repeat (go_quiet (fail); try go_wp2)
        go_ret
        exact ⟨apC, apF⟩
      ·rw [if_neg c6] at H
       exact absurd H (by simp)
     ·rw [if_neg c5] at H
      exact absurd H (by simp)
    ·rw [if_neg c4] at H
     have c4b0 : decide (x5_1 < (l0.length : Int)) = false := decide_eq_false c4
     clear c4
     obtain rfl := yG H
     go_wp2
     repeat (go_quiet (fail); try go_wp2)
     go_ret
     exact ⟨apC, apF⟩
 ·rw [if_neg c3] at H
  have c3b0 : ((l0.length : Int) == (l1.length : Int)) = false := beq_eq_false_iff_ne.mpr c3
  have c3b1 : ((l0.length : Int) != (l1.length : Int)) = true := bne_iff_ne.mpr c3
  have c3b2 : (l0.length == l1.length) = false := by first | simpa using c3 | (simp at c3 ⊢; omega)
  obtain rfl := yG H
  go_enter Tryd.func21, Tryd.ntmps21
  go_wp2
  repeat (go_quiet (fail); try go_wp2)
  go_ret
  exact ⟨apC, apF⟩


mutual
def laws_szValue.f : Nat → Int → Int → Int → ByteArray → List (S27) → List ByteArray → Int → Option (Int)
 | 0, _, _, _, _, _, _, _ => none
 | k + 1, a0_0, a0_1, a0_2, a0_3, l0_4, l0_5, a1 => if (wrap64 (a1 - (a0_3.size : Int))) < 0 then (some (-1)) else ((laws_szValueS.f k l0_4 (wrap64 (a1 - (a0_3.size : Int)))).bind fun t103 => (if t103 < 0 then (some (-1)) else ((laws_szStringS.f k l0_5 t103).bind fun t104 => (if t104 < 0 then (some (-1)) else (some t104)))))
def laws_szValueS.l0 : Nat → List (S27) → Int → Int → Option (Int)
 | 0, _, _, _ => none
 | k + 1, x0, x1, x5 => if x5 < (x0.length : Int) then (if 0 ≤ x5 then ((laws_szValue.f k ((rd_T27 x0 x5).f0) ((rd_T27 x0 x5).f1.f0) ((rd_T27 x0 x5).f1.f1) ((rd_T27 x0 x5).f2) ((rd_T27 x0 x5).f3) ((rd_T27 x0 x5).f4) x1).bind fun t106 => (if t106 < 0 then (some (-1)) else (laws_szValueS.l0 k x0 t106 (wrap64 (x5 + 1))))) else (none)) else (some x1)
def laws_szValueS.f : Nat → List (S27) → Int → Option (Int)
 | 0, _, _ => none
 | k + 1, l0, a1 => if (wrap64 (a1 - (l0.length : Int))) < 0 then (some (-1)) else (laws_szValueS.l0 k l0 (wrap64 (a1 - (l0.length : Int))) 0)
end
theorem laws_szValue.G.mono_l : ∀ k, (∀ y0 y1 y2 y3 y4 y5 y6, LeO (laws_szValue.f k y0 y1 y2 y3 y4 y5 y6) (laws_szValue.f (k + 1) y0 y1 y2 y3 y4 y5 y6)) ∧ (∀ y0 y1, LeO (laws_szValueS.f k y0 y1) (laws_szValueS.f (k + 1) y0 y1)) ∧ (∀ y0 y1 y2, LeO (laws_szValueS.l0 k y0 y1 y2) (laws_szValueS.l0 (k + 1) y0 y1 y2))
 | 0 => ⟨fun _ _ _ _ _ _ _ r h => by simp [laws_szValue.f] at h, fun _ _ r h => by simp [laws_szValueS.f] at h, fun _ _ _ r h => by simp [laws_szValueS.l0] at h⟩
 | k + 1 => by
  obtain ⟨ih0, ih1, ih2⟩ := laws_szValue.G.mono_l k
  refine ⟨?_, ?_, ?_⟩
  ·intro y0 y1 y2 y3 y4 y5 y6
   unfold laws_szValue.f
   repeat' first
   | (with_reducible exact ih0 _ _ _ _ _ _ _)
   | (with_reducible exact ih1 _ _)
   | (with_reducible exact ih2 _ _ _)
   | (with_reducible exact laws_szStringS.mono _ _ _)
   | (with_reducible exact LeO.refl _)
   | (with_reducible exact LeO.none _)
   | (with_reducible refine LeO.ite ?_ ?_)
   | (with_reducible refine LeO.bind ?_ (fun _ => ?_))
   | exact ih0 _ _ _ _ _ _ _
   | exact ih1 _ _
   | exact ih2 _ _ _
  ·intro y0 y1
   unfold laws_szValueS.f
   repeat' first
   | (with_reducible exact ih0 _ _ _ _ _ _ _)
   | (with_reducible exact ih1 _ _)
   | (with_reducible exact ih2 _ _ _)
   | (with_reducible exact laws_szStringS.mono _ _ _)
   | (with_reducible exact LeO.refl _)
   | (with_reducible exact LeO.none _)
   | (with_reducible refine LeO.ite ?_ ?_)
   | (with_reducible refine LeO.bind ?_ (fun _ => ?_))
   | exact ih0 _ _ _ _ _ _ _
   | exact ih1 _ _
   | exact ih2 _ _ _
  ·intro y0 y1 y2
   unfold laws_szValueS.l0
   repeat' first
   | (with_reducible exact ih0 _ _ _ _ _ _ _)
   | (with_reducible exact ih1 _ _)
   | (with_reducible exact ih2 _ _ _)
   | (with_reducible exact laws_szStringS.mono _ _ _)
   | (with_reducible exact LeO.refl _)
   | (with_reducible exact LeO.none _)
   | (with_reducible refine LeO.ite ?_ ?_)
   | (with_reducible refine LeO.bind ?_ (fun _ => ?_))
   | exact ih0 _ _ _ _ _ _ _
   | exact ih1 _ _
   | exact ih2 _ _ _
theorem laws_szValue.mono : ∀ a0 a1 a2 a3 a4 a5 a6 k, LeO (laws_szValue.f k a0 a1 a2 a3 a4 a5 a6) (laws_szValue.f (k + 1) a0 a1 a2 a3 a4 a5 a6) := fun a0 a1 a2 a3 a4 a5 a6 k => (laws_szValue.G.mono_l k).1 a0 a1 a2 a3 a4 a5 a6
theorem laws_szValueS.mono : ∀ a0 a1 k, LeO (laws_szValueS.f k a0 a1) (laws_szValueS.f (k + 1) a0 a1) := fun a0 a1 k => (laws_szValue.G.mono_l k).2.1 a0 a1
abbrev laws_szValue.Spec (k : Nat) : Prop := ∀ (a0_0 : Int) (a0_1 : Int) (a0_2 : Int) (a0_3 : ByteArray) (A0_4 : Option Addr) (c0_4 : Nat) (l0_4 : List (S27)) (A0_5 : Option Addr) (c0_5 : Nat) (l0_5 : List ByteArray) (a1 : Int) (r : Int) (w : World) (hr0_4 : Kd.C k27 w A0_4 l0_4.length l0_4) (hc0_4 : l0_4.length ≤ c0_4) (hr0_5 : Kd.C Kd.string w A0_5 l0_5.length l0_5) (hc0_5 : l0_5.length ≤ c0_5) (h : laws_szValue.f k a0_0 a0_1 a0_2 a0_3 l0_4 l0_5 a1 = some r),
  Calls Tryd.prog 4 #[.agg #[.int .i64 a0_0, .int .i64 a0_1, .int .i64 a0_2, .string a0_3, .slice A0_4 l0_4.length c0_4, .slice A0_5 l0_5.length c0_5], .int .i64 a1] w fun e w' => e = .returned (.int .i64 r) ∧ Below w.heap.size w w'
abbrev laws_szValueS.Spec (k : Nat) : Prop := ∀ (A0 : Option Addr) (c0 : Nat) (l0 : List (S27)) (a1 : Int) (r : Int) (w : World) (hr0 : Kd.C k27 w A0 l0.length l0) (hc0 : l0.length ≤ c0) (h : laws_szValueS.f k l0 a1 = some r),
  Calls Tryd.prog 9 #[.slice A0 l0.length c0, .int .i64 a1] w fun e w' => e = .returned (.int .i64 r) ∧ Below w.heap.size w w'
set_option maxHeartbeats 8000000 in
set_option maxRecDepth 100000 in
theorem laws_szValue.step (k : Nat) (ih_laws_szValue : ∀ m, m < k → laws_szValue.Spec m) (ih_laws_szValueS : ∀ m, m < k → laws_szValueS.Spec m) : laws_szValue.Spec k := by
 intro a0_0 a0_1 a0_2 a0_3 A0_4 c0_4 l0_4 A0_5 c0_5 l0_5 a1 r w hr0_4 hc0_4 hr0_5 hc0_5 h
 cases k with
 | zero => exact absurd h (by simp [laws_szValue.f])
 | succ k =>
 simp only [laws_szValue.f] at h
 have hu27 := Tryd.underlying27
 have HR0_4 := zA hr0_4
 have HC0_4 := zA hc0_4
 clear hr0_4 hc0_4
 have HR0_5 := zA hr0_5
 have HC0_5 := zA hc0_5
 clear hr0_5 hc0_5
 have HB := zA (yH w.heap.size w)
 have H : (if (wrap64 (a1 - (a0_3.size : Int))) < 0 then (some (-1)) else ((laws_szValueS.f k l0_4 (wrap64 (a1 - (a0_3.size : Int)))).bind fun t103 => (if t103 < 0 then (some (-1)) else ((laws_szStringS.f k l0_5 t103).bind fun t104 => (if t104 < 0 then (some (-1)) else (some t104)))))) = some r := h
 clear h
 by_cases c3 : (wrap64 (a1 - (a0_3.size : Int))) < 0
 ·rw [if_pos c3] at H
  have c3b0 : decide ((wrap64 (a1 - (a0_3.size : Int))) < 0) = true := yE c3
  clear c3
  obtain rfl := yG H
  go_enter Tryd.func4, Tryd.ntmps4
  go_wp2_with (first | ((with_reducible refine zS (N := 2) rfl ?_); refine zW ?hg (N := 2) ?hd (cs := #[.int .i64 a0_0, .int .i64 a0_1, .int .i64 a0_2, .string a0_3, .slice A0_4 l0_4.length c0_4, .slice A0_5 l0_5.length c0_5]) (t := 27) ?hr ?_; (case hd => rfl); (case hg => rfl); (case hr => first | (go_simp; done) | (go_simp; rfl)); intro gb102 hg w4 hbox hb; have BK102 := zA (hbox); have GW102 := zA ((by rw [hg]; exact (zQ apA) : w.heap.size ≤ gb102)); have GE102 := zA ((by rw [hg]; exact (zQ apA) : w.heap.size ≤ gb102)); replace HB := zA (zP apA hb); clear hb hbox hg; obtain ⟨hcz5_0, hcz5_1, hcz5_2, hcz5_3, hcz5_4, hcz5_5, hfz5_0, hfz5_1, hfz5_2, hfz5_3, hfz5_4, hfz5_5⟩ := zb6 BK102.out))
  go_ret
  exact ⟨apD, by repeat (first | (with_reducible first | exact HB.out | apply zG | apply zE | apply zF | refine zH ?_ GE102.out) | exact HB.out)⟩
 ·rw [if_neg c3] at H
  have c3b0 : decide ((wrap64 (a1 - (a0_3.size : Int))) < 0) = false := decide_eq_false c3
  clear c3
  replace H := Option.bind_eq_some_iff.mp H
  obtain ⟨t103, A60, H⟩ := H
  have A6 := zA A60
  clear A60
  by_cases c7 : t103 < 0
  ·rw [if_pos c7] at H
   have c7b0 : decide (t103 < 0) = true := yE c7
   clear c7
   obtain rfl := yG H
   go_enter Tryd.func4, Tryd.ntmps4
   go_wp2_with (first | ((with_reducible refine zS (N := 2) rfl ?_); refine zW ?hg (N := 2) ?hd (cs := #[.int .i64 a0_0, .int .i64 a0_1, .int .i64 a0_2, .string a0_3, .slice A0_4 l0_4.length c0_4, .slice A0_5 l0_5.length c0_5]) (t := 27) ?hr ?_; (case hd => rfl); (case hg => rfl); (case hr => first | (go_simp; done) | (go_simp; rfl)); intro gb102 hg w8 hbox hb; have BK102 := zA (hbox); have GW102 := zA ((by rw [hg]; exact (zQ apA) : w.heap.size ≤ gb102)); have GE102 := zA ((by rw [hg]; exact (zQ apA) : w.heap.size ≤ gb102)); replace HB := zA (zP apA hb); clear hb hbox hg; obtain ⟨hcz9_0, hcz9_1, hcz9_2, hcz9_3, hcz9_4, hcz9_5, hfz9_0, hfz9_1, hfz9_2, hfz9_3, hfz9_4, hfz9_5⟩ := zb6 BK102.out) | ((with_reducible refine zT (f := 9) rfl ?_); refine goesL_ (some 15) rfl rfl Tryd.func9 (by kernel_rfl) rfl #[.slice A0_4 l0_4.length c0_4, .int .i64 (wrap64 (a1 - (a0_3.size : Int)))] rfl apE ?_; (with_reducible refine (ih_laws_szValueS k (by omega) _ _ l0_4 (wrap64 (a1 - (a0_3.size : Int))) t103 _ ?side1 ?side2 A6.out).mono ?_); (case side1 => exact vc (Kd.C_below HR0_4.out HB.out)); (case side2 => exact HC0_4.out); rintro e w10 ⟨rfl, hb⟩; refine ⟨_, rfl, ?_⟩; replace HB := zA (zP apA hb); (try clear hb); (try clear hb2); (try clear hk); (try clear hi)))
   go_ret
   exact ⟨apD, apA⟩
  ·rw [if_neg c7] at H
   have c7b0 : decide (t103 < 0) = false := decide_eq_false c7
   clear c7
   replace H := Option.bind_eq_some_iff.mp H
   obtain ⟨t104, A110, H⟩ := H
   have A11 := zA A110
   clear A110
   by_cases c12 : t104 < 0
   ·rw [if_pos c12] at H
    have c12b0 : decide (t104 < 0) = true := yE c12
    clear c12
    obtain rfl := yG H
    go_enter Tryd.func4, Tryd.ntmps4
    go_wp2_with (first | ((with_reducible refine zS (N := 2) rfl ?_); refine zW ?hg (N := 2) ?hd (cs := #[.int .i64 a0_0, .int .i64 a0_1, .int .i64 a0_2, .string a0_3, .slice A0_4 l0_4.length c0_4, .slice A0_5 l0_5.length c0_5]) (t := 27) ?hr ?_; (case hd => rfl); (case hg => rfl); (case hr => first | (go_simp; done) | (go_simp; rfl)); intro gb102 hg w13 hbox hb; have BK102 := zA (hbox); have GW102 := zA ((by rw [hg]; exact (zQ apA) : w.heap.size ≤ gb102)); have GE102 := zA ((by rw [hg]; exact (zQ apA) : w.heap.size ≤ gb102)); replace HB := zA (zP apA hb); clear hb hbox hg; obtain ⟨hcz14_0, hcz14_1, hcz14_2, hcz14_3, hcz14_4, hcz14_5, hfz14_0, hfz14_1, hfz14_2, hfz14_3, hfz14_4, hfz14_5⟩ := zb6 BK102.out) | ((with_reducible refine zT (f := 9) rfl ?_); refine goesL_ (some 15) rfl rfl Tryd.func9 (by kernel_rfl) rfl #[.slice A0_4 l0_4.length c0_4, .int .i64 (wrap64 (a1 - (a0_3.size : Int)))] rfl apE ?_; (with_reducible refine (ih_laws_szValueS k (by omega) _ _ l0_4 (wrap64 (a1 - (a0_3.size : Int))) t103 _ ?side1 ?side2 A6.out).mono ?_); (case side1 => exact vc (Kd.C_below HR0_4.out HB.out)); (case side2 => exact HC0_4.out); rintro e w15 ⟨rfl, hb⟩; refine ⟨_, rfl, ?_⟩; replace BK102 := zA (zN (g := gb102) (o := .cells #[.int .i64 a0_0, .int .i64 a0_1, .int .i64 a0_2, .string a0_3, .slice A0_4 l0_4.length c0_4, .slice A0_5 l0_5.length c0_5] 27 (0, 0)) (by (with_reducible repeat (first | refine zB ?_ _ | refine zD ?_ | refine zC ?_ _)); exact BK102.out) hb); replace HB := zA (zP (by repeat (first | (with_reducible first | exact HB.out | apply zG | apply zE | apply zF | refine zH ?_ GE102.out) | exact HB.out)) hb); (try clear hb); (try clear hb2); (try clear hk); (try clear hi); obtain ⟨hcz16_0, hcz16_1, hcz16_2, hcz16_3, hcz16_4, hcz16_5, hfz16_0, hfz16_1, hfz16_2, hfz16_3, hfz16_4, hfz16_5⟩ := zb6 BK102.out) | ((with_reducible refine zT (f := 10) rfl ?_); refine goesL_ (some 21) rfl rfl Tryd.func10 (by kernel_rfl) rfl #[.slice A0_5 l0_5.length c0_5, .int .i64 t103] rfl apE ?_; (with_reducible refine (laws_szStringS.calls k _ _ l0_5 t103 t104 _ ?side1 ?side2 A11.out).mono ?_); (case side1 => exact vc (Kd.C_below HR0_5.out HB.out)); (case side2 => exact HC0_5.out); rintro e w' ⟨rfl, ⟨nd, rfl⟩⟩; refine ⟨_, rfl, ?_⟩))
    go_ret
    exact ⟨apD, apA⟩
   ·rw [if_neg c12] at H
    have c12b0 : decide (t104 < 0) = false := decide_eq_false c12
    clear c12
    obtain rfl := yG H
    go_enter Tryd.func4, Tryd.ntmps4
    go_wp2_with (first | ((with_reducible refine zS (N := 2) rfl ?_); refine zW ?hg (N := 2) ?hd (cs := #[.int .i64 a0_0, .int .i64 a0_1, .int .i64 a0_2, .string a0_3, .slice A0_4 l0_4.length c0_4, .slice A0_5 l0_5.length c0_5]) (t := 27) ?hr ?_; (case hd => rfl); (case hg => rfl); (case hr => first | (go_simp; done) | (go_simp; rfl)); intro gb102 hg w17 hbox hb; have BK102 := zA (hbox); have GW102 := zA ((by rw [hg]; exact (zQ apA) : w.heap.size ≤ gb102)); have GE102 := zA ((by rw [hg]; exact (zQ apA) : w.heap.size ≤ gb102)); replace HB := zA (zP apA hb); clear hb hbox hg; obtain ⟨hcz18_0, hcz18_1, hcz18_2, hcz18_3, hcz18_4, hcz18_5, hfz18_0, hfz18_1, hfz18_2, hfz18_3, hfz18_4, hfz18_5⟩ := zb6 BK102.out) | ((with_reducible refine zT (f := 9) rfl ?_); refine goesL_ (some 15) rfl rfl Tryd.func9 (by kernel_rfl) rfl #[.slice A0_4 l0_4.length c0_4, .int .i64 (wrap64 (a1 - (a0_3.size : Int)))] rfl apE ?_; (with_reducible refine (ih_laws_szValueS k (by omega) _ _ l0_4 (wrap64 (a1 - (a0_3.size : Int))) t103 _ ?side1 ?side2 A6.out).mono ?_); (case side1 => exact vc (Kd.C_below HR0_4.out HB.out)); (case side2 => exact HC0_4.out); rintro e w19 ⟨rfl, hb⟩; refine ⟨_, rfl, ?_⟩; replace BK102 := zA (zN (g := gb102) (o := .cells #[.int .i64 a0_0, .int .i64 a0_1, .int .i64 a0_2, .string a0_3, .slice A0_4 l0_4.length c0_4, .slice A0_5 l0_5.length c0_5] 27 (0, 0)) (by (with_reducible repeat (first | refine zB ?_ _ | refine zD ?_ | refine zC ?_ _)); exact BK102.out) hb); replace HB := zA (zP (by repeat (first | (with_reducible first | exact HB.out | apply zG | apply zE | apply zF | refine zH ?_ GE102.out) | exact HB.out)) hb); (try clear hb); (try clear hb2); (try clear hk); (try clear hi); obtain ⟨hcz20_0, hcz20_1, hcz20_2, hcz20_3, hcz20_4, hcz20_5, hfz20_0, hfz20_1, hfz20_2, hfz20_3, hfz20_4, hfz20_5⟩ := zb6 BK102.out) | ((with_reducible refine zT (f := 10) rfl ?_); refine goesL_ (some 21) rfl rfl Tryd.func10 (by kernel_rfl) rfl #[.slice A0_5 l0_5.length c0_5, .int .i64 t103] rfl apE ?_; (with_reducible refine (laws_szStringS.calls k _ _ l0_5 t103 t104 _ ?side1 ?side2 A11.out).mono ?_); (case side1 => exact vc (Kd.C_below HR0_5.out HB.out)); (case side2 => exact HC0_5.out); rintro e w' ⟨rfl, ⟨nd, rfl⟩⟩; refine ⟨_, rfl, ?_⟩))
    go_ret
    exact ⟨apD, apA⟩

set_option maxHeartbeats 8000000 in
set_option maxRecDepth 100000 in
theorem laws_szValueS.step (k : Nat) (ih_laws_szValue : ∀ m, m < k → laws_szValue.Spec m) (ih_laws_szValueS : ∀ m, m < k → laws_szValueS.Spec m) : laws_szValueS.Spec k := by
 intro A0 c0 l0 a1 r w hr0 hc0 h
 cases k with
 | zero => exact absurd h (by simp [laws_szValueS.f])
 | succ k =>
 simp only [laws_szValueS.f] at h
 have hu27 := Tryd.underlying27
 have HR0 := zA hr0
 have HC0 := zA hc0
 clear hr0 hc0
 have HB := zA (yH w.heap.size w)
 have H : (if (wrap64 (a1 - (l0.length : Int))) < 0 then (some (-1)) else (laws_szValueS.l0 k l0 (wrap64 (a1 - (l0.length : Int))) 0)) = some r := h
 clear h
 by_cases c3 : (wrap64 (a1 - (l0.length : Int))) < 0
 ·rw [if_pos c3] at H
  have c3b0 : decide ((wrap64 (a1 - (l0.length : Int))) < 0) = true := yE c3
  clear c3
  obtain rfl := yG H
  go_enter Tryd.func9, Tryd.ntmps9
  go_wp2
  go_ret
  exact ⟨apD, apA⟩
 ·rw [if_neg c3] at H
  have c3b0 : decide ((wrap64 (a1 - (l0.length : Int))) < 0) = false := decide_eq_false c3
  clear c3
  have H' := zA H
  clear H
  go_enter Tryd.func9, Tryd.ntmps9
  go_wp2
  go_loopg [1, 5] k (fun kq v1 v5 w' => ∃ (x1_1 : Int) (x5_1 : Int), v1 = .int .i64 x1_1 ∧ v5 = .int .i64 x5_1 ∧ Aside0 (laws_szValueS.l0 kq l0 x1_1 x5_1 = some r) ∧ Aside0 (kq ≤ k) ∧ Aside0 (Below w.heap.size w w'))
  case atStart => exact ⟨(wrap64 (a1 - (l0.length : Int))), (0), apC, apC, H', ⟨yJ _⟩, ⟨apA⟩⟩
  case round =>
   clear H'
   try clear p2 c3 c3b0
   obtain ⟨x1_1, x5_1, rfl, rfl, HA, HK1, HB⟩ := hrel
   cases gk with
   | zero => exact absurd HA.out (by simp [laws_szValueS.l0])
   | succ k1 =>
    have H := HA.out
    clear HA
    simp only [laws_szValueS.l0] at H
    by_cases c4 : x5_1 < (l0.length : Int)
    ·rw [if_pos c4] at H
     have c4b0 : decide (x5_1 < (l0.length : Int)) = true := yE c4
     clear c4
     by_cases c5 : 0 ≤ x5_1
     ·rw [if_pos c5] at H
      have c5b0 : decide (0 ≤ x5_1) = true := yE c5
      clear c5
      replace H := Option.bind_eq_some_iff.mp H
      obtain ⟨t106, A60, H⟩ := H
      have A6 := zA A60
      clear A60
      by_cases c7 : t106 < 0
      ·rw [if_pos c7] at H
       have c7b0 : decide (t106 < 0) = true := yE c7
       clear c7
       obtain rfl := yG H
       have p105 : 0 ≤ (x5_1 : Int) := yF apB
       have q105 : x5_1 < (l0.length : Int) := yF apB
       obtain ⟨ad105, A105_4, c105_4, A105_5, c105_5, e105, hx105_0, hx105_1, hx105_2, hx105_3, hx105_4, hx105_5, hl105_4, hi105_4, hl105_5, hi105_5⟩ := at_T27 HR0.out x5_1 p105 q105
       cases e105
       replace hx105_0 := (HB.out.cell (zR w _ hx105_0)).trans hx105_0
       replace hx105_1 := (HB.out.cell (zR w _ hx105_1)).trans hx105_1
       replace hx105_2 := (HB.out.cell (zR w _ hx105_2)).trans hx105_2
       replace hx105_3 := (HB.out.cell (zR w _ hx105_3)).trans hx105_3
       replace hx105_4 := (HB.out.cell (zR w _ hx105_4)).trans hx105_4
       replace hx105_5 := (HB.out.cell (zR w _ hx105_5)).trans hx105_5
       have HR105_4 := zA hi105_4
       have HC105_4 := zA hl105_4
       clear hi105_4 hl105_4
       have HR105_5 := zA hi105_5
       have HC105_5 := zA hl105_5
       clear hi105_5 hl105_5
       replace p105 := eq_true p105
       replace q105 := eq_true q105
       go_wp2_with (first | ((with_reducible refine zT (f := 4) rfl ?_); refine goesL_ (some 23) rfl rfl Tryd.func4 (by kernel_rfl) rfl #[.agg #[.int .i64 ((rd_T27 l0 x5_1).f0), .int .i64 ((rd_T27 l0 x5_1).f1.f0), .int .i64 ((rd_T27 l0 x5_1).f1.f1), .string ((rd_T27 l0 x5_1).f2), .slice A105_4 ((rd_T27 l0 x5_1).f3).length c105_4, .slice A105_5 ((rd_T27 l0 x5_1).f4).length c105_5], .int .i64 x1_1] rfl apE ?_; (with_reducible refine (ih_laws_szValue k1 (by have := HK1.out; omega) ((rd_T27 l0 x5_1).f0) ((rd_T27 l0 x5_1).f1.f0) ((rd_T27 l0 x5_1).f1.f1) ((rd_T27 l0 x5_1).f2) _ _ ((rd_T27 l0 x5_1).f3) _ _ ((rd_T27 l0 x5_1).f4) x1_1 t106 _ ?side1 ?side2 ?side3 ?side4 A6.out).mono ?_); (case side1 => exact vc (Kd.C_below HR105_4.out HB.out)); (case side2 => exact HC105_4.out); (case side3 => exact vc (Kd.C_below HR105_5.out HB.out)); (case side4 => exact HC105_5.out); rintro e w8 ⟨rfl, hb⟩; refine ⟨_, rfl, ?_⟩; replace HB := zA (zP apA hb); (try clear hb); (try clear hb2); (try clear hk); (try clear hi)))
       go_ret
       exact ⟨apD, apA⟩
      ·rw [if_neg c7] at H
       have c7b0 : decide (t106 < 0) = false := decide_eq_false c7
       clear c7
       have H' := zA H
       clear H
       have p105 : 0 ≤ (x5_1 : Int) := yF apB
       have q105 : x5_1 < (l0.length : Int) := yF apB
       obtain ⟨ad105, A105_4, c105_4, A105_5, c105_5, e105, hx105_0, hx105_1, hx105_2, hx105_3, hx105_4, hx105_5, hl105_4, hi105_4, hl105_5, hi105_5⟩ := at_T27 HR0.out x5_1 p105 q105
       cases e105
       replace hx105_0 := (HB.out.cell (zR w _ hx105_0)).trans hx105_0
       replace hx105_1 := (HB.out.cell (zR w _ hx105_1)).trans hx105_1
       replace hx105_2 := (HB.out.cell (zR w _ hx105_2)).trans hx105_2
       replace hx105_3 := (HB.out.cell (zR w _ hx105_3)).trans hx105_3
       replace hx105_4 := (HB.out.cell (zR w _ hx105_4)).trans hx105_4
       replace hx105_5 := (HB.out.cell (zR w _ hx105_5)).trans hx105_5
       have HR105_4 := zA hi105_4
       have HC105_4 := zA hl105_4
       clear hi105_4 hl105_4
       have HR105_5 := zA hi105_5
       have HC105_5 := zA hl105_5
       clear hi105_5 hl105_5
       replace p105 := eq_true p105
       replace q105 := eq_true q105
       go_wp2_with (first | ((with_reducible refine zT (f := 4) rfl ?_); refine goesL_ (some 23) rfl rfl Tryd.func4 (by kernel_rfl) rfl #[.agg #[.int .i64 ((rd_T27 l0 x5_1).f0), .int .i64 ((rd_T27 l0 x5_1).f1.f0), .int .i64 ((rd_T27 l0 x5_1).f1.f1), .string ((rd_T27 l0 x5_1).f2), .slice A105_4 ((rd_T27 l0 x5_1).f3).length c105_4, .slice A105_5 ((rd_T27 l0 x5_1).f4).length c105_5], .int .i64 x1_1] rfl apE ?_; (with_reducible refine (ih_laws_szValue k1 (by have := HK1.out; omega) ((rd_T27 l0 x5_1).f0) ((rd_T27 l0 x5_1).f1.f0) ((rd_T27 l0 x5_1).f1.f1) ((rd_T27 l0 x5_1).f2) _ _ ((rd_T27 l0 x5_1).f3) _ _ ((rd_T27 l0 x5_1).f4) x1_1 t106 _ ?side1 ?side2 ?side3 ?side4 A6.out).mono ?_); (case side1 => exact vc (Kd.C_below HR105_4.out HB.out)); (case side2 => exact HC105_4.out); (case side3 => exact vc (Kd.C_below HR105_5.out HB.out)); (case side4 => exact HC105_5.out); rintro e w9 ⟨rfl, hb⟩; refine ⟨_, rfl, ?_⟩; replace HB := zA (zP apA hb); (try clear hb); (try clear hb2); (try clear hk); (try clear hi)))
       go_roundg k1
       case measure => have := HK1.out; omega
       case rel => exact ⟨(t106), (wrap64 (x5_1 + 1)), apC, apC, H', ⟨by have := HK1.out; omega⟩, ⟨apA⟩⟩
     ·rw [if_neg c5] at H
      exact absurd H (by simp)
    ·rw [if_neg c4] at H
     have c4b0 : decide (x5_1 < (l0.length : Int)) = false := decide_eq_false c4
     clear c4
     obtain rfl := yG H
     go_wp2
     go_ret
     exact ⟨apD, apA⟩

theorem laws_szValue.G.all (k : Nat) : laws_szValue.Spec k ∧ laws_szValueS.Spec k := by
 induction k using Nat.strongRecOn with
 | _ k ih =>
  exact ⟨laws_szValue.step k (fun m hm => (ih m hm).1) (fun m hm => (ih m hm).2), laws_szValueS.step k (fun m hm => (ih m hm).1) (fun m hm => (ih m hm).2)⟩
theorem laws_szValue.calls (k : Nat) : laws_szValue.Spec k := (laws_szValue.G.all k).1
theorem laws_szValueS.calls (k : Nat) : laws_szValueS.Spec k := (laws_szValue.G.all k).2


def laws_toDec.f (a0_0 : Int) (a0_1 : Int) : Option (Int × Int) := some (a0_0, a0_1)
set_option maxHeartbeats 8000000 in
set_option maxRecDepth 100000 in
theorem laws_toDec.calls (a0_0 : Int) (a0_1 : Int) (r1 : Int) (r2 : Int) (w : World) (h : laws_toDec.f a0_0 a0_1 = some (r1, r2)) :
  Calls Tryd.prog 14 #[.agg #[.int .i64 a0_0, .int .i64 a0_1]] w fun e w' => e = .returned (.agg #[.int .i64 r1, .int .i64 r2]) ∧ Below w.heap.size w w' := by
 have hu23 := Tryd.underlying23
 have hu31 := Tryd.underlying31
 have HB := zA (yH w.heap.size w)
 have H : (some (a0_0, a0_1)) = some (r1, r2) := h
 clear h
 simp only [Option.some.injEq, Prod.mk.injEq] at H
 obtain ⟨rfl, rfl⟩ := H
 go_enter Tryd.func14, Tryd.ntmps14
 go_wp2_with (first | ((with_reducible refine zS (N := 1) rfl ?_); refine zW ?hg (N := 1) ?hd (cs := #[.int .i64 a0_0, .int .i64 a0_1]) (t := 23) ?hr ?_; (case hd => rfl); (case hg => rfl); (case hr => first | (go_simp; done) | (go_simp; rfl)); intro gb107 hg w2 hbox hb; have BK107 := zA (hbox); have GW107 := zA ((by rw [hg]; exact (zQ apA) : w.heap.size ≤ gb107)); have GE107 := zA ((by rw [hg]; exact (zQ apA) : w.heap.size ≤ gb107)); replace HB := zA (zP apA hb); clear hb hbox hg) | ((with_reducible refine zS (N := 2) rfl ?_); refine zW ?hg (N := 2) ?hd (cs := #[.int .i64 0, .int .i64 0]) (t := 31) ?hr ?_; (case hd => rfl); (case hg => rfl); (case hr => first | (go_simp; done) | (go_simp; rfl)); intro gb108 hg w3 hbox hb; have BK108 := zA (hbox); have GW108 := zA ((by rw [hg]; exact (zQ (by repeat (first | (with_reducible first | exact HB.out | apply zG | apply zE | apply zF | refine zH ?_ GE107.out) | exact HB.out))) : w.heap.size ≤ gb108)); have GE108 := zA ((by rw [hg]; exact (zQ (by repeat (first | (with_reducible first | exact HB.out | apply zG | apply zE | apply zF | refine zH ?_ GE107.out) | exact HB.out))) : w.heap.size ≤ gb108)); replace HB := zA (zP (by repeat (first | (with_reducible first | exact HB.out | apply zG | apply zE | apply zF | refine zH ?_ GE107.out) | exact HB.out)) hb); have NB107_108 := zA ((by rw [hg]; exact Nat.ne_of_lt (blk_lt (g := gb107) (o := .cells #[.int .i64 a0_0, .int .i64 a0_1] 23 (0, 0)) (by (with_reducible repeat (first | refine zB ?_ _ | refine zD ?_ | refine zC ?_ _)); exact BK107.out)) : gb107 ≠ gb108)); have NB108_107 := zA ((by rw [hg]; exact Nat.ne_of_gt (blk_lt (g := gb107) (o := .cells #[.int .i64 a0_0, .int .i64 a0_1] 23 (0, 0)) (by (with_reducible repeat (first | refine zB ?_ _ | refine zD ?_ | refine zC ?_ _)); exact BK107.out)) : gb108 ≠ gb107)); replace BK107 := zA (zN (g := gb107) (o := .cells #[.int .i64 a0_0, .int .i64 a0_1] 23 (0, 0)) (by (with_reducible repeat (first | refine zB ?_ _ | refine zD ?_ | refine zC ?_ _)); exact BK107.out) hb); clear hb hbox hg) | ((with_reducible refine zS (N := 3) rfl ?_); refine zW ?hg (N := 3) ?hd (cs := #[.int .i64 0, .int .i64 0]) (t := 31) ?hr ?_; (case hd => rfl); (case hg => rfl); (case hr => first | (go_simp; done) | (go_simp; rfl)); intro gb109 hg w4 hbox hb; have BK109 := zA (hbox); have GW109 := zA ((by rw [hg]; exact (zQ (by repeat (first | (with_reducible first | exact HB.out | apply zG | apply zE | apply zF | refine zH ?_ GE107.out | refine zH ?_ GE108.out) | exact HB.out))) : w.heap.size ≤ gb109)); have GE109 := zA ((by rw [hg]; exact (zQ (by repeat (first | (with_reducible first | exact HB.out | apply zG | apply zE | apply zF | refine zH ?_ GE107.out | refine zH ?_ GE108.out) | exact HB.out))) : w.heap.size ≤ gb109)); replace HB := zA (zP (by repeat (first | (with_reducible first | exact HB.out | apply zG | apply zE | apply zF | refine zH ?_ GE107.out | refine zH ?_ GE108.out) | exact HB.out)) hb); have NB107_109 := zA ((by rw [hg]; exact Nat.ne_of_lt (blk_lt (g := gb107) (o := .cells #[.int .i64 a0_0, .int .i64 a0_1] 23 (0, 0)) (by (with_reducible repeat (first | refine zB ?_ _ | refine zD ?_ | refine zC ?_ _)); exact BK107.out)) : gb107 ≠ gb109)); have NB109_107 := zA ((by rw [hg]; exact Nat.ne_of_gt (blk_lt (g := gb107) (o := .cells #[.int .i64 a0_0, .int .i64 a0_1] 23 (0, 0)) (by (with_reducible repeat (first | refine zB ?_ _ | refine zD ?_ | refine zC ?_ _)); exact BK107.out)) : gb109 ≠ gb107)); replace BK107 := zA (zN (g := gb107) (o := .cells #[.int .i64 a0_0, .int .i64 a0_1] 23 (0, 0)) (by (with_reducible repeat (first | refine zB ?_ _ | refine zD ?_ | refine zC ?_ _)); exact BK107.out) hb); have NB108_109 := zA ((by rw [hg]; exact Nat.ne_of_lt (blk_lt (g := gb108) (o := .cells #[.int .i64 0, .int .i64 0] 31 (0, 0)) (by (with_reducible repeat (first | refine zB ?_ _ | refine zD ?_ | refine zC ?_ _)); exact BK108.out)) : gb108 ≠ gb109)); have NB109_108 := zA ((by rw [hg]; exact Nat.ne_of_gt (blk_lt (g := gb108) (o := .cells #[.int .i64 0, .int .i64 0] 31 (0, 0)) (by (with_reducible repeat (first | refine zB ?_ _ | refine zD ?_ | refine zC ?_ _)); exact BK108.out)) : gb109 ≠ gb108)); replace BK108 := zA (zN (g := gb108) (o := .cells #[.int .i64 0, .int .i64 0] 31 (0, 0)) (by (with_reducible repeat (first | refine zB ?_ _ | refine zD ?_ | refine zC ?_ _)); exact BK108.out) hb); clear hb hbox hg; have hnb5 := NB107_108.out; have hnc5 := NB108_107.out; have hnb6 := NB107_109.out; have hnc6 := NB109_107.out; obtain ⟨hcz7_0, hcz7_1, hfz7_0, hfz7_1⟩ := zb2 BK107.out; have hnb8 := NB109_108.out; have hnc8 := NB108_109.out; obtain ⟨hcz9_0, hcz9_1, hfz9_0, hfz9_1⟩ := zb2 BK109.out; obtain ⟨hcz10_0, hcz10_1, hfz10_0, hfz10_1⟩ := zb2 BK108.out))
 refine bodyPost_ret (results_cell_row rfl _ _ gb108 31 #[.int .i64 a0_0, .int .i64 a0_1] (0, 0) _ rfl (by (with_reducible repeat (first | refine zB ?_ _ | refine zD ?_ | refine zC ?_ _)); refine blk_put (cs := #[.int .i64 a0_0, .int .i64 0]) ?_ 1 _ rfl; (with_reducible repeat (first | refine zB ?_ _ | refine zD ?_ | refine zC ?_ _)); refine blk_put (cs := #[.int .i64 0, .int .i64 0]) ?_ 0 _ rfl; (with_reducible repeat (first | refine zB ?_ _ | refine zD ?_ | refine zC ?_ _)); refine blk_far ?_ NB108_109.out _; (with_reducible repeat (first | refine zB ?_ _ | refine zD ?_ | refine zC ?_ _)); refine blk_far ?_ NB108_109.out _; (with_reducible repeat (first | refine zB ?_ _ | refine zD ?_ | refine zC ?_ _)); exact BK108.out) Tryd.underlying31 rfl (by kernel_rfl)) rfl ?_
 exact ⟨apD, by repeat (first | (with_reducible first | exact HB.out | apply zG | apply zE | apply zF | refine zH ?_ GE107.out | refine zH ?_ GE108.out | refine zH ?_ GE109.out) | exact HB.out)⟩


mutual
def laws_toValue.f : Nat → Int → Int → Int → ByteArray → List (S27) → List ByteArray → Option (Int × Int × Int × ByteArray × (List (S34)) × List ByteArray)
 | 0, _, _, _, _, _, _ => none
 | k + 1, a0_0, a0_1, a0_2, a0_3, l0_4, l0_5 => (laws_toDec.f a0_1 a0_2).bind fun bt118 => ((laws_toValueS.f k l0_4).bind fun t120 => ((laws_toStringS.f k l0_5).bind fun t123 => (some (a0_0, bt118.1, bt118.2, a0_3, t120, t123))))
def laws_toValueS.l0 : Nat → List (S27) → List (S34) → Int → Option ((List (S34)))
 | 0, _, _, _ => none
 | k + 1, x0, x3, x4 => if x4 < (x0.length : Int) then (if 0 ≤ x4 then ((laws_toValue.f k ((rd_T27 x0 x4).f0) ((rd_T27 x0 x4).f1.f0) ((rd_T27 x0 x4).f1.f1) ((rd_T27 x0 x4).f2) ((rd_T27 x0 x4).f3) ((rd_T27 x0 x4).f4)).bind fun bt130 => (if x4 < (x3.length : Int) then (laws_toValueS.l0 k x0 (x3.set (x4 : Int).toNat (⟨bt130.1, (⟨bt130.2.1, bt130.2.2.1⟩ : S31), bt130.2.2.2.1, bt130.2.2.2.2.1, bt130.2.2.2.2.2⟩ : S34)) (wrap64 (x4 + 1))) else (none))) else (none)) else (some x3)
def laws_toValueS.f : Nat → List (S27) → Option ((List (S34)))
 | 0, _ => none
 | k + 1, l0 => if 0 ≤ (l0.length : Int) then (if ((l0.length : Int) : Int).toNat ≤ 3198579280802 then (laws_toValueS.l0 k l0 (List.replicate ((l0.length : Int) : Int).toNat z34) 0) else (none)) else (none)
end
theorem laws_toValue.G.mono_l : ∀ k, (∀ y0 y1 y2 y3 y4 y5, LeO (laws_toValue.f k y0 y1 y2 y3 y4 y5) (laws_toValue.f (k + 1) y0 y1 y2 y3 y4 y5)) ∧ (∀ y0, LeO (laws_toValueS.f k y0) (laws_toValueS.f (k + 1) y0)) ∧ (∀ y0 y1 y2, LeO (laws_toValueS.l0 k y0 y1 y2) (laws_toValueS.l0 (k + 1) y0 y1 y2))
 | 0 => ⟨fun _ _ _ _ _ _ r h => by simp [laws_toValue.f] at h, fun _ r h => by simp [laws_toValueS.f] at h, fun _ _ _ r h => by simp [laws_toValueS.l0] at h⟩
 | k + 1 => by
  obtain ⟨ih0, ih1, ih2⟩ := laws_toValue.G.mono_l k
  refine ⟨?_, ?_, ?_⟩
  ·intro y0 y1 y2 y3 y4 y5
   unfold laws_toValue.f
   repeat' first
   | (with_reducible exact ih0 _ _ _ _ _ _)
   | (with_reducible exact ih1 _)
   | (with_reducible exact ih2 _ _ _)
   | (with_reducible exact laws_toStringS.mono _ _)
   | (with_reducible exact LeO.refl _)
   | (with_reducible exact LeO.none _)
   | (with_reducible refine LeO.ite ?_ ?_)
   | (with_reducible refine LeO.bind ?_ (fun _ => ?_))
   | exact ih0 _ _ _ _ _ _
   | exact ih1 _
   | exact ih2 _ _ _
  ·intro y0
   unfold laws_toValueS.f
   repeat' first
   | (with_reducible exact ih0 _ _ _ _ _ _)
   | (with_reducible exact ih1 _)
   | (with_reducible exact ih2 _ _ _)
   | (with_reducible exact laws_toStringS.mono _ _)
   | (with_reducible exact LeO.refl _)
   | (with_reducible exact LeO.none _)
   | (with_reducible refine LeO.ite ?_ ?_)
   | (with_reducible refine LeO.bind ?_ (fun _ => ?_))
   | exact ih0 _ _ _ _ _ _
   | exact ih1 _
   | exact ih2 _ _ _
  ·intro y0 y1 y2
   unfold laws_toValueS.l0
   repeat' first
   | (with_reducible exact ih0 _ _ _ _ _ _)
   | (with_reducible exact ih1 _)
   | (with_reducible exact ih2 _ _ _)
   | (with_reducible exact laws_toStringS.mono _ _)
   | (with_reducible exact LeO.refl _)
   | (with_reducible exact LeO.none _)
   | (with_reducible refine LeO.ite ?_ ?_)
   | (with_reducible refine LeO.bind ?_ (fun _ => ?_))
   | exact ih0 _ _ _ _ _ _
   | exact ih1 _
   | exact ih2 _ _ _
theorem laws_toValue.mono : ∀ a0 a1 a2 a3 a4 a5 k, LeO (laws_toValue.f k a0 a1 a2 a3 a4 a5) (laws_toValue.f (k + 1) a0 a1 a2 a3 a4 a5) := fun a0 a1 a2 a3 a4 a5 k => (laws_toValue.G.mono_l k).1 a0 a1 a2 a3 a4 a5
theorem laws_toValueS.mono : ∀ a0 k, LeO (laws_toValueS.f k a0) (laws_toValueS.f (k + 1) a0) := fun a0 k => (laws_toValue.G.mono_l k).2.1 a0
abbrev laws_toValue.Spec (k : Nat) : Prop := ∀ (a0_0 : Int) (a0_1 : Int) (a0_2 : Int) (a0_3 : ByteArray) (A0_4 : Option Addr) (c0_4 : Nat) (l0_4 : List (S27)) (A0_5 : Option Addr) (c0_5 : Nat) (l0_5 : List ByteArray) (r1 : Int) (r2 : Int) (r3 : Int) (r4 : ByteArray) (r5 : List (S34)) (r6 : List ByteArray) (w : World) (hr0_4 : Kd.C k27 w A0_4 l0_4.length l0_4) (hc0_4 : l0_4.length ≤ c0_4) (hr0_5 : Kd.C Kd.string w A0_5 l0_5.length l0_5) (hc0_5 : l0_5.length ≤ c0_5) (h : laws_toValue.f k a0_0 a0_1 a0_2 a0_3 l0_4 l0_5 = some (r1, r2, r3, r4, r5, r6)),
  Calls Tryd.prog 6 #[.agg #[.int .i64 a0_0, .int .i64 a0_1, .int .i64 a0_2, .string a0_3, .slice A0_4 l0_4.length c0_4, .slice A0_5 l0_5.length c0_5]] w fun e w' => ∃ v4_ v5_ : Value, e = .returned (.agg #[.int .i64 r1, .int .i64 r2, .int .i64 r3, .string r4, v4_, v5_]) ∧ Kd.R k34 34 w' w.heap.size (fun k_ => some k_ ≠ (v5_ : Value).ownBlock) v4_ r5 ∧ Kd.R Kd.string 9 w' w.heap.size (fun _ => True) v5_ r6 ∧ Below w.heap.size w w'
abbrev laws_toValueS.Spec (k : Nat) : Prop := ∀ (A0 : Option Addr) (c0 : Nat) (l0 : List (S27)) (r : List (S34)) (w : World) (hr0 : Kd.C k27 w A0 l0.length l0) (hc0 : l0.length ≤ c0) (h : laws_toValueS.f k l0 = some r),
  Calls Tryd.prog 15 #[.slice A0 l0.length c0] w fun e w' => ∃ v0_ : Value, e = .returned (v0_) ∧ Kd.R k34 34 w' w.heap.size (fun _ => True) v0_ r ∧ Below w.heap.size w w'
set_option maxHeartbeats 8000000 in
set_option maxRecDepth 100000 in
theorem laws_toValue.step (k : Nat) (ih_laws_toValue : ∀ m, m < k → laws_toValue.Spec m) (ih_laws_toValueS : ∀ m, m < k → laws_toValueS.Spec m) : laws_toValue.Spec k := by
 intro a0_0 a0_1 a0_2 a0_3 A0_4 c0_4 l0_4 A0_5 c0_5 l0_5 r1 r2 r3 r4 r5 r6 w hr0_4 hc0_4 hr0_5 hc0_5 h
 cases k with
 | zero => exact absurd h (by simp [laws_toValue.f])
 | succ k =>
 simp only [laws_toValue.f] at h
 have hu27 := Tryd.underlying27
 have hu34 := Tryd.underlying34
 have hu23 := Tryd.underlying23
 have hu31 := Tryd.underlying31
 have HR0_4 := zA hr0_4
 have HC0_4 := zA hc0_4
 clear hr0_4 hc0_4
 have HR0_5 := zA hr0_5
 have HC0_5 := zA hc0_5
 clear hr0_5 hc0_5
 have HB := zA (yH w.heap.size w)
 have H : ((laws_toDec.f a0_1 a0_2).bind fun bt118 => ((laws_toValueS.f k l0_4).bind fun t120 => ((laws_toStringS.f k l0_5).bind fun t123 => (some (a0_0, bt118.1, bt118.2, a0_3, t120, t123))))) = some (r1, r2, r3, r4, r5, r6) := h
 clear h
 replace H := Option.bind_eq_some_iff.mp H
 obtain ⟨⟨t118, t119⟩, A20, H⟩ := H
 replace H : ((laws_toValueS.f k l0_4).bind fun t120 => ((laws_toStringS.f k l0_5).bind fun t123 => (some (a0_0, t118, t119, a0_3, t120, t123)))) = some (r1, r2, r3, r4, r5, r6) := H
 have A2 := zA A20
 clear A20
 replace H := Option.bind_eq_some_iff.mp H
 obtain ⟨t120, A30, H⟩ := H
 replace H : ((laws_toStringS.f k l0_5).bind fun t123 => (some (a0_0, t118, t119, a0_3, t120, t123))) = some (r1, r2, r3, r4, r5, r6) := H
 have A3 := zA A30
 clear A30
 replace H := Option.bind_eq_some_iff.mp H
 obtain ⟨t123, A40, H⟩ := H
 replace H : (some (a0_0, t118, t119, a0_3, t120, t123)) = some (r1, r2, r3, r4, r5, r6) := H
 have A4 := zA A40
 clear A40
 simp only [Option.some.injEq, Prod.mk.injEq] at H
 obtain ⟨rfl, rfl, rfl, rfl, rfl, rfl⟩ := H
 go_enter Tryd.func6, Tryd.ntmps6
 go_wp2_with (first | ((with_reducible refine zS (N := 1) rfl ?_); refine zW ?hg (N := 1) ?hd (cs := #[.int .i64 a0_0, .int .i64 a0_1, .int .i64 a0_2, .string a0_3, .slice A0_4 l0_4.length c0_4, .slice A0_5 l0_5.length c0_5]) (t := 27) ?hr ?_; (case hd => rfl); (case hg => rfl); (case hr => first | (go_simp; done) | (go_simp; rfl)); intro gb115 hg w5 hbox hb; have BK115 := zA (hbox); have GW115 := zA ((by rw [hg]; exact (zQ apA) : w.heap.size ≤ gb115)); have GE115 := zA ((by rw [hg]; exact (zQ apA) : w.heap.size ≤ gb115)); replace HB := zA (zP apA hb); clear hb hbox hg) | ((with_reducible refine zS (N := 2) rfl ?_); refine zW ?hg (N := 2) ?hd (cs := #[.int .i64 0, .int .i64 0, .int .i64 0, .string (⟨#[]⟩ : ByteArray), .slice none 0 0, .slice none 0 0]) (t := 34) ?hr ?_; (case hd => rfl); (case hg => rfl); (case hr => first | (go_simp; done) | (go_simp; rfl)); intro gb116 hg w6 hbox hb; have BK116 := zA (hbox); have GW116 := zA ((by rw [hg]; exact (zQ (by repeat (first | (with_reducible first | exact HB.out | apply zG | apply zE | apply zF | refine zH ?_ GE115.out) | exact HB.out))) : w.heap.size ≤ gb116)); have GE116 := zA ((by rw [hg]; exact (zQ (by repeat (first | (with_reducible first | exact HB.out | apply zG | apply zE | apply zF | refine zH ?_ GE115.out) | exact HB.out))) : w.heap.size ≤ gb116)); replace HB := zA (zP (by repeat (first | (with_reducible first | exact HB.out | apply zG | apply zE | apply zF | refine zH ?_ GE115.out) | exact HB.out)) hb); have NB115_116 := zA ((by rw [hg]; exact Nat.ne_of_lt (blk_lt (g := gb115) (o := .cells #[.int .i64 a0_0, .int .i64 a0_1, .int .i64 a0_2, .string a0_3, .slice A0_4 l0_4.length c0_4, .slice A0_5 l0_5.length c0_5] 27 (0, 0)) (by (with_reducible repeat (first | refine zB ?_ _ | refine zD ?_ | refine zC ?_ _)); exact BK115.out)) : gb115 ≠ gb116)); have NB116_115 := zA ((by rw [hg]; exact Nat.ne_of_gt (blk_lt (g := gb115) (o := .cells #[.int .i64 a0_0, .int .i64 a0_1, .int .i64 a0_2, .string a0_3, .slice A0_4 l0_4.length c0_4, .slice A0_5 l0_5.length c0_5] 27 (0, 0)) (by (with_reducible repeat (first | refine zB ?_ _ | refine zD ?_ | refine zC ?_ _)); exact BK115.out)) : gb116 ≠ gb115)); replace BK115 := zA (zN (g := gb115) (o := .cells #[.int .i64 a0_0, .int .i64 a0_1, .int .i64 a0_2, .string a0_3, .slice A0_4 l0_4.length c0_4, .slice A0_5 l0_5.length c0_5] 27 (0, 0)) (by (with_reducible repeat (first | refine zB ?_ _ | refine zD ?_ | refine zC ?_ _)); exact BK115.out) hb); clear hb hbox hg) | ((with_reducible refine zS (N := 3) rfl ?_); refine zW ?hg (N := 3) ?hd (cs := #[.int .i64 0, .int .i64 0, .int .i64 0, .string (⟨#[]⟩ : ByteArray), .slice none 0 0, .slice none 0 0]) (t := 34) ?hr ?_; (case hd => rfl); (case hg => rfl); (case hr => first | (go_simp; done) | (go_simp; rfl)); intro gb117 hg w7 hbox hb; have BK117 := zA (hbox); have GW117 := zA ((by rw [hg]; exact (zQ (by repeat (first | (with_reducible first | exact HB.out | apply zG | apply zE | apply zF | refine zH ?_ GE115.out | refine zH ?_ GE116.out) | exact HB.out))) : w.heap.size ≤ gb117)); have GE117 := zA ((by rw [hg]; exact (zQ (by repeat (first | (with_reducible first | exact HB.out | apply zG | apply zE | apply zF | refine zH ?_ GE115.out | refine zH ?_ GE116.out) | exact HB.out))) : w.heap.size ≤ gb117)); replace HB := zA (zP (by repeat (first | (with_reducible first | exact HB.out | apply zG | apply zE | apply zF | refine zH ?_ GE115.out | refine zH ?_ GE116.out) | exact HB.out)) hb); have NB115_117 := zA ((by rw [hg]; exact Nat.ne_of_lt (blk_lt (g := gb115) (o := .cells #[.int .i64 a0_0, .int .i64 a0_1, .int .i64 a0_2, .string a0_3, .slice A0_4 l0_4.length c0_4, .slice A0_5 l0_5.length c0_5] 27 (0, 0)) (by (with_reducible repeat (first | refine zB ?_ _ | refine zD ?_ | refine zC ?_ _)); exact BK115.out)) : gb115 ≠ gb117)); have NB117_115 := zA ((by rw [hg]; exact Nat.ne_of_gt (blk_lt (g := gb115) (o := .cells #[.int .i64 a0_0, .int .i64 a0_1, .int .i64 a0_2, .string a0_3, .slice A0_4 l0_4.length c0_4, .slice A0_5 l0_5.length c0_5] 27 (0, 0)) (by (with_reducible repeat (first | refine zB ?_ _ | refine zD ?_ | refine zC ?_ _)); exact BK115.out)) : gb117 ≠ gb115)); replace BK115 := zA (zN (g := gb115) (o := .cells #[.int .i64 a0_0, .int .i64 a0_1, .int .i64 a0_2, .string a0_3, .slice A0_4 l0_4.length c0_4, .slice A0_5 l0_5.length c0_5] 27 (0, 0)) (by (with_reducible repeat (first | refine zB ?_ _ | refine zD ?_ | refine zC ?_ _)); exact BK115.out) hb); have NB116_117 := zA ((by rw [hg]; exact Nat.ne_of_lt (blk_lt (g := gb116) (o := .cells #[.int .i64 0, .int .i64 0, .int .i64 0, .string (⟨#[]⟩ : ByteArray), .slice none 0 0, .slice none 0 0] 34 (0, 0)) (by (with_reducible repeat (first | refine zB ?_ _ | refine zD ?_ | refine zC ?_ _)); exact BK116.out)) : gb116 ≠ gb117)); have NB117_116 := zA ((by rw [hg]; exact Nat.ne_of_gt (blk_lt (g := gb116) (o := .cells #[.int .i64 0, .int .i64 0, .int .i64 0, .string (⟨#[]⟩ : ByteArray), .slice none 0 0, .slice none 0 0] 34 (0, 0)) (by (with_reducible repeat (first | refine zB ?_ _ | refine zD ?_ | refine zC ?_ _)); exact BK116.out)) : gb117 ≠ gb116)); replace BK116 := zA (zN (g := gb116) (o := .cells #[.int .i64 0, .int .i64 0, .int .i64 0, .string (⟨#[]⟩ : ByteArray), .slice none 0 0, .slice none 0 0] 34 (0, 0)) (by (with_reducible repeat (first | refine zB ?_ _ | refine zD ?_ | refine zC ?_ _)); exact BK116.out) hb); clear hb hbox hg; have hnb8 := NB115_116.out; have hnc8 := NB116_115.out; have hnb9 := NB115_117.out; have hnc9 := NB117_115.out; obtain ⟨hcz10_0, hcz10_1, hcz10_2, hcz10_3, hcz10_4, hcz10_5, hfz10_0, hfz10_1, hfz10_2, hfz10_3, hfz10_4, hfz10_5⟩ := zb6 BK115.out; have hnb11 := NB117_116.out; have hnc11 := NB116_117.out; obtain ⟨hcz12_0, hcz12_1, hcz12_2, hcz12_3, hcz12_4, hcz12_5, hfz12_0, hfz12_1, hfz12_2, hfz12_3, hfz12_4, hfz12_5⟩ := zb6 BK117.out) | ((with_reducible refine zT (f := 14) rfl ?_); refine goesL_ (some 9) rfl rfl Tryd.func14 (by kernel_rfl) rfl #[.agg #[.int .i64 a0_1, .int .i64 a0_2]] rfl apE ?_; (with_reducible refine (laws_toDec.calls a0_1 a0_2 t118 t119 _ A2.out).mono ?_); rintro e w13 ⟨rfl, hb⟩; refine ⟨_, rfl, ?_⟩; replace BK115 := zA (zN (g := gb115) (o := .cells #[.int .i64 a0_0, .int .i64 a0_1, .int .i64 a0_2, .string a0_3, .slice A0_4 l0_4.length c0_4, .slice A0_5 l0_5.length c0_5] 27 (0, 0)) (by (with_reducible repeat (first | refine zB ?_ _ | refine zD ?_ | refine zC ?_ _)); refine blk_far ?_ NB115_117.out _; (with_reducible repeat (first | refine zB ?_ _ | refine zD ?_ | refine zC ?_ _)); exact BK115.out) hb); replace BK116 := zA (zN (g := gb116) (o := .cells #[.int .i64 0, .int .i64 0, .int .i64 0, .string (⟨#[]⟩ : ByteArray), .slice none 0 0, .slice none 0 0] 34 (0, 0)) (by (with_reducible repeat (first | refine zB ?_ _ | refine zD ?_ | refine zC ?_ _)); refine blk_far ?_ NB116_117.out _; (with_reducible repeat (first | refine zB ?_ _ | refine zD ?_ | refine zC ?_ _)); exact BK116.out) hb); replace BK117 := zA (zN (g := gb117) (o := .cells #[.int .i64 a0_0, .int .i64 0, .int .i64 0, .string (⟨#[]⟩ : ByteArray), .slice none 0 0, .slice none 0 0] 34 (0, 0)) (by (with_reducible repeat (first | refine zB ?_ _ | refine zD ?_ | refine zC ?_ _)); refine blk_put (cs := #[.int .i64 0, .int .i64 0, .int .i64 0, .string (⟨#[]⟩ : ByteArray), .slice none 0 0, .slice none 0 0]) ?_ 0 _ rfl; (with_reducible repeat (first | refine zB ?_ _ | refine zD ?_ | refine zC ?_ _)); exact BK117.out) hb); replace HB := zA (zP (by repeat (first | (with_reducible first | exact HB.out | apply zG | apply zE | apply zF | refine zH ?_ GE115.out | refine zH ?_ GE116.out | refine zH ?_ GE117.out) | exact HB.out)) hb); (try clear hb); (try clear hb2); (try clear hk); (try clear hi); obtain ⟨hcz14_0, hcz14_1, hcz14_2, hcz14_3, hcz14_4, hcz14_5, hfz14_0, hfz14_1, hfz14_2, hfz14_3, hfz14_4, hfz14_5⟩ := zb6 BK117.out; obtain ⟨hcz15_0, hcz15_1, hcz15_2, hcz15_3, hcz15_4, hcz15_5, hfz15_0, hfz15_1, hfz15_2, hfz15_3, hfz15_4, hfz15_5⟩ := zb6 BK115.out) | ((with_reducible refine zT (f := 15) rfl ?_); refine goesL_ (some 16) rfl rfl Tryd.func15 (by kernel_rfl) rfl #[.slice A0_4 l0_4.length c0_4] rfl apE ?_; (with_reducible refine (ih_laws_toValueS k (by omega) _ _ l0_4 t120 _ ?side1 ?side2 A3.out).mono ?_); (case side1 => exact Kd.C_below HR0_4.out (by repeat (first | (with_reducible first | exact HB.out | apply zG | apply zE | apply zF | refine zH ?_ GE115.out | refine zH ?_ GE116.out | refine zH ?_ GE117.out) | exact HB.out))); (case side2 => exact HC0_4.out); rintro e w16 ⟨v121, rfl, ho0, hb⟩; refine ⟨_, rfl, ?_⟩; have HO122 := zA (Kd.R_lower (Kd.R_newB (Kd.R_newB ho0 (g := gb116) (o := .cells #[.int .i64 0, .int .i64 0, .int .i64 0, .string (⟨#[]⟩ : ByteArray), .slice none 0 0, .slice none 0 0] 34 (0, 0)) (by (with_reducible repeat (first | refine zB ?_ _ | refine zD ?_ | refine zC ?_ _)); refine blk_far ?_ NB116_117.out _; (with_reducible repeat (first | refine zB ?_ _ | refine zD ?_ | refine zC ?_ _)); refine blk_far ?_ NB116_117.out _; (with_reducible repeat (first | refine zB ?_ _ | refine zD ?_ | refine zC ?_ _)); refine blk_far ?_ NB116_117.out _; (with_reducible repeat (first | refine zB ?_ _ | refine zD ?_ | refine zC ?_ _)); exact BK116.out)) (g := gb117) (o := .cells #[.int .i64 a0_0, .int .i64 t118, .int .i64 t119, .string a0_3, .slice none 0 0, .slice none 0 0] 34 (0, 0)) (by (with_reducible repeat (first | refine zB ?_ _ | refine zD ?_ | refine zC ?_ _)); refine blk_put (cs := #[.int .i64 a0_0, .int .i64 t118, .int .i64 t119, .string (⟨#[]⟩ : ByteArray), .slice none 0 0, .slice none 0 0]) ?_ 3 _ rfl; (with_reducible repeat (first | refine zB ?_ _ | refine zD ?_ | refine zC ?_ _)); refine blk_put (cs := #[.int .i64 a0_0, .int .i64 t118, .int .i64 0, .string (⟨#[]⟩ : ByteArray), .slice none 0 0, .slice none 0 0]) ?_ 2 _ rfl; (with_reducible repeat (first | refine zB ?_ _ | refine zD ?_ | refine zC ?_ _)); refine blk_put (cs := #[.int .i64 a0_0, .int .i64 0, .int .i64 0, .string (⟨#[]⟩ : ByteArray), .slice none 0 0, .slice none 0 0]) ?_ 1 _ rfl; (with_reducible repeat (first | refine zB ?_ _ | refine zD ?_ | refine zC ?_ _)); exact BK117.out)) (zQ (by repeat (first | (with_reducible first | exact HB.out | apply zG | apply zE | apply zF | refine zH ?_ GE115.out | refine zH ?_ GE116.out | refine zH ?_ GE117.out) | exact HB.out)))); replace BK115 := zA (zN (g := gb115) (o := .cells #[.int .i64 a0_0, .int .i64 a0_1, .int .i64 a0_2, .string a0_3, .slice A0_4 l0_4.length c0_4, .slice A0_5 l0_5.length c0_5] 27 (0, 0)) (by (with_reducible repeat (first | refine zB ?_ _ | refine zD ?_ | refine zC ?_ _)); refine blk_far ?_ NB115_117.out _; (with_reducible repeat (first | refine zB ?_ _ | refine zD ?_ | refine zC ?_ _)); refine blk_far ?_ NB115_117.out _; (with_reducible repeat (first | refine zB ?_ _ | refine zD ?_ | refine zC ?_ _)); refine blk_far ?_ NB115_117.out _; (with_reducible repeat (first | refine zB ?_ _ | refine zD ?_ | refine zC ?_ _)); exact BK115.out) hb); replace BK116 := zA (zN (g := gb116) (o := .cells #[.int .i64 0, .int .i64 0, .int .i64 0, .string (⟨#[]⟩ : ByteArray), .slice none 0 0, .slice none 0 0] 34 (0, 0)) (by (with_reducible repeat (first | refine zB ?_ _ | refine zD ?_ | refine zC ?_ _)); refine blk_far ?_ NB116_117.out _; (with_reducible repeat (first | refine zB ?_ _ | refine zD ?_ | refine zC ?_ _)); refine blk_far ?_ NB116_117.out _; (with_reducible repeat (first | refine zB ?_ _ | refine zD ?_ | refine zC ?_ _)); refine blk_far ?_ NB116_117.out _; (with_reducible repeat (first | refine zB ?_ _ | refine zD ?_ | refine zC ?_ _)); exact BK116.out) hb); replace BK117 := zA (zN (g := gb117) (o := .cells #[.int .i64 a0_0, .int .i64 t118, .int .i64 t119, .string a0_3, .slice none 0 0, .slice none 0 0] 34 (0, 0)) (by (with_reducible repeat (first | refine zB ?_ _ | refine zD ?_ | refine zC ?_ _)); refine blk_put (cs := #[.int .i64 a0_0, .int .i64 t118, .int .i64 t119, .string (⟨#[]⟩ : ByteArray), .slice none 0 0, .slice none 0 0]) ?_ 3 _ rfl; (with_reducible repeat (first | refine zB ?_ _ | refine zD ?_ | refine zC ?_ _)); refine blk_put (cs := #[.int .i64 a0_0, .int .i64 t118, .int .i64 0, .string (⟨#[]⟩ : ByteArray), .slice none 0 0, .slice none 0 0]) ?_ 2 _ rfl; (with_reducible repeat (first | refine zB ?_ _ | refine zD ?_ | refine zC ?_ _)); refine blk_put (cs := #[.int .i64 a0_0, .int .i64 0, .int .i64 0, .string (⟨#[]⟩ : ByteArray), .slice none 0 0, .slice none 0 0]) ?_ 1 _ rfl; (with_reducible repeat (first | refine zB ?_ _ | refine zD ?_ | refine zC ?_ _)); exact BK117.out) hb); replace HB := zA (zP (by repeat (first | (with_reducible first | exact HB.out | apply zG | apply zE | apply zF | refine zH ?_ GE115.out | refine zH ?_ GE116.out | refine zH ?_ GE117.out) | exact HB.out)) hb); (try clear hb); (try clear hb2); (try clear hk); (try clear hi); (try clear ho0); obtain ⟨Ao17, co17, eo17⟩ := Kd.R_slice HO122.out; subst eo17; obtain ⟨hcz18_0, hcz18_1, hcz18_2, hcz18_3, hcz18_4, hcz18_5, hfz18_0, hfz18_1, hfz18_2, hfz18_3, hfz18_4, hfz18_5⟩ := zb6 BK117.out; obtain ⟨hcz19_0, hcz19_1, hcz19_2, hcz19_3, hcz19_4, hcz19_5, hfz19_0, hfz19_1, hfz19_2, hfz19_3, hfz19_4, hfz19_5⟩ := zb6 BK115.out) | ((with_reducible refine zT (f := 16) rfl ?_); refine goesL_ (some 20) rfl rfl Tryd.func16 (by kernel_rfl) rfl #[.slice A0_5 l0_5.length c0_5] rfl apE ?_; (with_reducible refine (laws_toStringS.calls k _ _ l0_5 t123 _ ?side1 ?side2 A4.out).mono ?_); (case side1 => exact Kd.C_below HR0_5.out (by repeat (first | (with_reducible first | exact HB.out | apply zG | apply zE | apply zF | refine zH ?_ GE116.out | refine zH ?_ GE117.out) | exact HB.out))); (case side2 => exact HC0_5.out); rintro e w20 ⟨v124, rfl, ho0, hb⟩; refine ⟨_, rfl, ?_⟩; replace HO122 := zA (Kd.R_elder' (by (with_reducible repeat (first | apply Kd.R_alloc | apply Kd.R_drewN | apply Kd.R_drew)); exact (Kd.R_mono (Kd.R_far (p := ⟨gb117, 4, none⟩) (Kd.R_mono HO122.out (fun k_ hk => (⟨hk, hk.2⟩ : _ ∧ k_ ≠ gb117))) (fun _ hk => hk.2) (.slice Ao17 t120.length co17)) (fun _ h_ => h_.1))) (Kd.R_base ho0) hb); have HO125 := zA (Kd.R_lower ho0 (zQ (by repeat (first | (with_reducible first | exact HB.out | apply zG | apply zE | apply zF | refine zH ?_ GE116.out | refine zH ?_ GE117.out) | exact HB.out)))); replace BK116 := zA (zN (g := gb116) (o := .cells #[.int .i64 0, .int .i64 0, .int .i64 0, .string (⟨#[]⟩ : ByteArray), .slice none 0 0, .slice none 0 0] 34 (0, 0)) (by (with_reducible repeat (first | refine zB ?_ _ | refine zD ?_ | refine zC ?_ _)); refine blk_far ?_ NB116_117.out _; (with_reducible repeat (first | refine zB ?_ _ | refine zD ?_ | refine zC ?_ _)); exact BK116.out) hb); replace BK117 := zA (zN (g := gb117) (o := .cells #[.int .i64 a0_0, .int .i64 t118, .int .i64 t119, .string a0_3, .slice Ao17 t120.length co17, .slice none 0 0] 34 (0, 0)) (by (with_reducible repeat (first | refine zB ?_ _ | refine zD ?_ | refine zC ?_ _)); refine blk_put (cs := #[.int .i64 a0_0, .int .i64 t118, .int .i64 t119, .string a0_3, .slice none 0 0, .slice none 0 0]) ?_ 4 _ rfl; (with_reducible repeat (first | refine zB ?_ _ | refine zD ?_ | refine zC ?_ _)); exact BK117.out) hb); replace HB := zA (zP (by repeat (first | (with_reducible first | exact HB.out | apply zG | apply zE | apply zF | refine zH ?_ GE116.out | refine zH ?_ GE117.out) | exact HB.out)) hb); (try clear hb); (try clear hb2); (try clear hk); (try clear hi); (try clear ho0); obtain ⟨Ao21, co21, eo21⟩ := Kd.R_slice HO125.out; subst eo21; obtain ⟨hcz22_0, hcz22_1, hcz22_2, hcz22_3, hcz22_4, hcz22_5, hfz22_0, hfz22_1, hfz22_2, hfz22_3, hfz22_4, hfz22_5⟩ := zb6 BK117.out; obtain ⟨hcz23_0, hcz23_1, hcz23_2, hcz23_3, hcz23_4, hcz23_5, hfz23_0, hfz23_1, hfz23_2, hfz23_3, hfz23_4, hfz23_5⟩ := zb6 BK116.out))
 refine bodyPost_ret (results_cell_row rfl _ _ gb116 34 #[.int .i64 a0_0, .int .i64 t118, .int .i64 t119, .string a0_3, .slice Ao17 t120.length co17, .slice Ao21 t123.length co21] (0, 0) _ rfl (by (with_reducible repeat (first | refine zB ?_ _ | refine zD ?_ | refine zC ?_ _)); refine blk_put (cs := #[.int .i64 a0_0, .int .i64 t118, .int .i64 t119, .string a0_3, .slice Ao17 t120.length co17, .slice none 0 0]) ?_ 5 _ rfl; (with_reducible repeat (first | refine zB ?_ _ | refine zD ?_ | refine zC ?_ _)); refine blk_put (cs := #[.int .i64 a0_0, .int .i64 t118, .int .i64 t119, .string a0_3, .slice none 0 0, .slice none 0 0]) ?_ 4 _ rfl; (with_reducible repeat (first | refine zB ?_ _ | refine zD ?_ | refine zC ?_ _)); refine blk_put (cs := #[.int .i64 a0_0, .int .i64 t118, .int .i64 t119, .string (⟨#[]⟩ : ByteArray), .slice none 0 0, .slice none 0 0]) ?_ 3 _ rfl; (with_reducible repeat (first | refine zB ?_ _ | refine zD ?_ | refine zC ?_ _)); refine blk_put (cs := #[.int .i64 a0_0, .int .i64 t118, .int .i64 0, .string (⟨#[]⟩ : ByteArray), .slice none 0 0, .slice none 0 0]) ?_ 2 _ rfl; (with_reducible repeat (first | refine zB ?_ _ | refine zD ?_ | refine zC ?_ _)); refine blk_put (cs := #[.int .i64 a0_0, .int .i64 0, .int .i64 0, .string (⟨#[]⟩ : ByteArray), .slice none 0 0, .slice none 0 0]) ?_ 1 _ rfl; (with_reducible repeat (first | refine zB ?_ _ | refine zD ?_ | refine zC ?_ _)); refine blk_put (cs := #[.int .i64 0, .int .i64 0, .int .i64 0, .string (⟨#[]⟩ : ByteArray), .slice none 0 0, .slice none 0 0]) ?_ 0 _ rfl; (with_reducible repeat (first | refine zB ?_ _ | refine zD ?_ | refine zC ?_ _)); refine blk_far ?_ NB116_117.out _; (with_reducible repeat (first | refine zB ?_ _ | refine zD ?_ | refine zC ?_ _)); exact BK116.out) Tryd.underlying34 rfl (by kernel_rfl)) rfl ?_
 exact ⟨_, _, apD, by (with_reducible repeat (first | apply Kd.R_alloc | apply Kd.R_drewN | apply Kd.R_drew)); exact Kd.R_mono (Kd.R_far (p := ⟨gb116, 5, none⟩) (Kd.R_far (p := ⟨gb116, 4, none⟩) (Kd.R_far (p := ⟨gb116, 3, none⟩) (Kd.R_far (p := ⟨gb116, 2, none⟩) (Kd.R_far (p := ⟨gb116, 1, none⟩) (Kd.R_far (p := ⟨gb116, 0, none⟩) (Kd.R_far (p := ⟨gb117, 5, none⟩) (Kd.R_mono (Kd.R_mono HO122.out (fun k_ hk => (⟨hk, hk.1.2⟩ : _ ∧ k_ ≠ gb117))) (fun k_ hk => (⟨hk, hk.1.1.1.2⟩ : _ ∧ k_ ≠ gb116))) (fun _ hk => hk.1.2) (.slice Ao21 t123.length co21)) (fun _ hk => hk.2) (.int .i64 a0_0)) (fun _ hk => hk.2) (.int .i64 t118)) (fun _ hk => hk.2) (.int .i64 t119)) (fun _ hk => hk.2) (.string a0_3)) (fun _ hk => hk.2) (.slice Ao17 t120.length co17)) (fun _ hk => hk.2) (.slice Ao21 t123.length co21)) (fun _ hk => hk.1.1.2), by (with_reducible repeat (first | apply Kd.R_alloc | apply Kd.R_drewN | apply Kd.R_drew)); exact Kd.R_mono (Kd.R_far (p := ⟨gb116, 5, none⟩) (Kd.R_far (p := ⟨gb116, 4, none⟩) (Kd.R_far (p := ⟨gb116, 3, none⟩) (Kd.R_far (p := ⟨gb116, 2, none⟩) (Kd.R_far (p := ⟨gb116, 1, none⟩) (Kd.R_far (p := ⟨gb116, 0, none⟩) (Kd.R_far (p := ⟨gb117, 5, none⟩) (Kd.R_types (Kd.R_types HO125.out BK117.out (by decide)) BK116.out (by decide)) (fun _ hk => hk.1.2) (.slice Ao21 t123.length co21)) (fun _ hk => hk.2) (.int .i64 a0_0)) (fun _ hk => hk.2) (.int .i64 t118)) (fun _ hk => hk.2) (.int .i64 t119)) (fun _ hk => hk.2) (.string a0_3)) (fun _ hk => hk.2) (.slice Ao17 t120.length co17)) (fun _ hk => hk.2) (.slice Ao21 t123.length co21)) (fun _ hk => trivial), by repeat (first | (with_reducible first | exact HB.out | apply zG | apply zE | apply zF | refine zH ?_ GE116.out | refine zH ?_ GE117.out) | exact HB.out)⟩

set_option maxHeartbeats 8000000 in
set_option maxRecDepth 100000 in
theorem laws_toValueS.step (k : Nat) (ih_laws_toValue : ∀ m, m < k → laws_toValue.Spec m) (ih_laws_toValueS : ∀ m, m < k → laws_toValueS.Spec m) : laws_toValueS.Spec k := by
 intro A0 c0 l0 r w hr0 hc0 h
 cases k with
 | zero => exact absurd h (by simp [laws_toValueS.f])
 | succ k =>
 simp only [laws_toValueS.f] at h
 have hu27 := Tryd.underlying27
 have hu34 := Tryd.underlying34
 have HR0 := zA hr0
 have HC0 := zA hc0
 clear hr0 hc0
 have HB := zA (yH w.heap.size w)
 have H : (if 0 ≤ (l0.length : Int) then (if ((l0.length : Int) : Int).toNat ≤ 3198579280802 then (laws_toValueS.l0 k l0 (List.replicate ((l0.length : Int) : Int).toNat z34) 0) else (none)) else (none)) = some r := h
 clear h
 by_cases c2 : 0 ≤ (l0.length : Int)
 ·rw [if_pos c2] at H
  have c2b0 := eq_true c2
  have c2b1 : decide (0 ≤ (l0.length : Int)) = true := yE c2
  clear c2
  by_cases c3 : ((l0.length : Int) : Int).toNat ≤ 3198579280802
  ·rw [if_pos c3] at H
   have c3b0 := eq_true c3
   have c3b1 : decide (((l0.length : Int) : Int).toNat ≤ 3198579280802) = true := yE c3
   clear c3
   obtain ⟨y126, hy126⟩ : ∃ y_ : List (S34), y_ = (List.replicate ((l0.length : Int) : Int).toNat z34) := ⟨_, rfl⟩
   replace H : (laws_toValueS.l0 k l0 y126 0) = some r := by first | (rw [hy126]; with_reducible exact H) | (have H2_ := (Option.bind_some _ _).symm.trans H; rw [hy126]; with_reducible exact H2_) | (have H2_ := (Option.bind_some _ _).symm.trans H; with_reducible exact H2_) | with_reducible exact H | (rw [hy126]; exact H) | exact H
   have Ny126 := zA hy126
   clear hy126
   have H' := zA H
   clear H
   go_enter Tryd.func15, Tryd.ntmps15
   go_wp2_with (first | ((with_reducible refine zS (N := 7) rfl ?_); refine Kd.R_make k34 _ 34 rfl (N := 7) rfl 32 _ _ rfl (l0.length : Int) rfl rfl Tryd.underlying32 (.agg #[(.int .i64 0), (.int .i64 0), (.int .i64 0), (.string ⟨#[]⟩), (.slice none 0 0), (.slice none 0 0)]) 88 info34 rfl (by decide) (by omega) z34 (ok := fun _ => True) (okp := fun _ => True) (k34_mkM _ _ _ z34 (Kd.R_nil _ _ _ _ _) (Kd.R_nil _ _ _ _ _)) (fun _ hk => hk) trivial (yF apB) (Nat.le_trans (Nat.mul_le_mul_right _ (yF apB : (l0.length : Int).toNat ≤ 3198579280802)) (by omega)) (yH _ _) (yJ _) ?_; intro v127 w4 ho5 hb hg_ hnew_; clear hg_ hnew_; (first | rw [← Ny126.out] at ho5 | (simp only [Int.reduceToNat] at ho5; rw [← Ny126.out] at ho5)); have HO128 := zA (Kd.R_lower ho5 (zQ apA)); replace HB := zA (zP apA hb); clear hb ho5))
   go_loopg [4] k (fun kq v4 w' => ∃ (x3_1 : List (S34)) (x4_1 : Int), v4 = .int .i64 x4_1 ∧ Aside0 (laws_toValueS.l0 kq l0 x3_1 x4_1 = some r) ∧ Aside0 (kq ≤ k) ∧ Aside0 (Kd.R k34 34 w' w.heap.size (fun _ => True) v127 x3_1) ∧ Aside0 (Below w.heap.size w w'))
   case atStart => exact ⟨(y126), (0), apC, H', ⟨yJ _⟩, ⟨vwR HO128.out⟩, ⟨apA⟩⟩
   case round =>
    clear H'
    try clear c1 c2 c2b0 c2b1 p2 c3 c3b0 c3b1
    obtain ⟨x3_1, x4_1, rfl, HA, HK1, HO_3, HB⟩ := hrel
    cases gk with
    | zero => exact absurd HA.out (by simp [laws_toValueS.l0])
    | succ k1 =>
     have H := HA.out
     clear HA
     simp only [laws_toValueS.l0] at H
     by_cases c6 : x4_1 < (l0.length : Int)
     ·rw [if_pos c6] at H
      have c6b0 : decide (x4_1 < (l0.length : Int)) = true := yE c6
      clear c6
      by_cases c7 : 0 ≤ x4_1
      ·rw [if_pos c7] at H
       have c7b0 : decide (0 ≤ x4_1) = true := yE c7
       clear c7
       replace H := Option.bind_eq_some_iff.mp H
       obtain ⟨⟨t130, t131, t132, t133, t134, t137⟩, A80, H⟩ := H
       have A8 := zA A80
       clear A80
       by_cases c9 : x4_1 < (x3_1.length : Int)
       ·rw [if_pos c9] at H
        have c9b0 : decide (x4_1 < (x3_1.length : Int)) = true := yE c9
        clear c9
        obtain ⟨y140, hy140⟩ : ∃ y_ : List (S34), y_ = (x3_1.set (x4_1 : Int).toNat (⟨t130, (⟨t131, t132⟩ : S31), t133, t134, t137⟩ : S34)) := ⟨_, rfl⟩
        replace H : (laws_toValueS.l0 k1 l0 y140 (wrap64 (x4_1 + 1))) = some r := by first | (rw [hy140]; with_reducible exact H) | (have H2_ := (Option.bind_some _ _).symm.trans H; rw [hy140]; with_reducible exact H2_) | (have H2_ := (Option.bind_some _ _).symm.trans H; with_reducible exact H2_) | with_reducible exact H | (rw [hy140]; exact H) | exact H
        have Ny140 := zA hy140
        clear hy140
        have H' := zA H
        clear H
        have p129 : 0 ≤ (x4_1 : Int) := yF apB
        have q129 : x4_1 < (l0.length : Int) := yF apB
        obtain ⟨ad129, A129_4, c129_4, A129_5, c129_5, e129, hx129_0, hx129_1, hx129_2, hx129_3, hx129_4, hx129_5, hl129_4, hi129_4, hl129_5, hi129_5⟩ := at_T27 HR0.out x4_1 p129 q129
        cases e129
        replace hx129_0 := (HB.out.cell (zR w _ hx129_0)).trans hx129_0
        replace hx129_1 := (HB.out.cell (zR w _ hx129_1)).trans hx129_1
        replace hx129_2 := (HB.out.cell (zR w _ hx129_2)).trans hx129_2
        replace hx129_3 := (HB.out.cell (zR w _ hx129_3)).trans hx129_3
        replace hx129_4 := (HB.out.cell (zR w _ hx129_4)).trans hx129_4
        replace hx129_5 := (HB.out.cell (zR w _ hx129_5)).trans hx129_5
        have HR129_4 := zA hi129_4
        have HC129_4 := zA hl129_4
        clear hi129_4 hl129_4
        have HR129_5 := zA hi129_5
        have HC129_5 := zA hl129_5
        clear hi129_5 hl129_5
        replace p129 := eq_true p129
        replace q129 := eq_true q129
        go_wp2_with (first | ((with_reducible refine zT (f := 6) rfl ?_); refine goesL_ (some 20) rfl rfl Tryd.func6 (by kernel_rfl) rfl #[.agg #[.int .i64 ((rd_T27 l0 x4_1).f0), .int .i64 ((rd_T27 l0 x4_1).f1.f0), .int .i64 ((rd_T27 l0 x4_1).f1.f1), .string ((rd_T27 l0 x4_1).f2), .slice A129_4 ((rd_T27 l0 x4_1).f3).length c129_4, .slice A129_5 ((rd_T27 l0 x4_1).f4).length c129_5]] rfl apE ?_; (with_reducible refine (ih_laws_toValue k1 (by have := HK1.out; omega) ((rd_T27 l0 x4_1).f0) ((rd_T27 l0 x4_1).f1.f0) ((rd_T27 l0 x4_1).f1.f1) ((rd_T27 l0 x4_1).f2) _ _ ((rd_T27 l0 x4_1).f3) _ _ ((rd_T27 l0 x4_1).f4) t130 t131 t132 t133 t134 t137 _ ?side1 ?side2 ?side3 ?side4 A8.out).mono ?_); (case side1 => exact vc (Kd.C_below HR129_4.out HB.out)); (case side2 => exact HC129_4.out); (case side3 => exact vc (Kd.C_below HR129_5.out HB.out)); (case side4 => exact HC129_5.out); rintro e w11 ⟨v135, v138, rfl, ho0, ho1, hb⟩; refine ⟨_, rfl, ?_⟩; have HO136 := zA (Kd.R_lower (Kd.R_new' ho0 (Kd.R_lt (vwR HO_3.out))) (zQ apA)); replace HO_3 := zA (Kd.R_mono (Kd.R_told (Kd.R_told (Kd.R_old (vwR HO_3.out) hb) (Kd.R_base ho0)) (Kd.R_base ho1)) (fun _ h_ => h_.1)); have HO139 := zA (Kd.R_lower ho1 (zQ apA)); replace HB := zA (zP apA hb); (try clear hb); (try clear hb2); (try clear hk); (try clear hi); (try clear ho0); (try clear ho1); have p10 : 0 ≤ (x4_1 : Int) := yF apB; have q10 : (x4_1 : Int) < ((x3_1.length : Int) : Int) := yF apB; obtain ⟨go10, co10, eo10, gb10, gl10, cl10, HG10⟩ := Kd.R_form HO_3.out (by omega); (first | cases eo10 | (injection eo10 with ea_ en_ ec_; (first | subst ea_ | (injection ea_ with ea_; subst ea_)); subst ec_; clear en_)); have GB10 := zA gb10; have GG10 := zA HG10; clear gb10 gl10 HG10; obtain ⟨ce10, hcl10, hM10, hcc10, hfr10⟩ := Kd.R_elem HO_3.out z34 (x4_1 : Int) p10 q10; obtain ⟨ve10_4, ve10_5, rfl, ge10_4, ge10_5⟩ := k34_openM hM10; have hx10_0 : w11.cell? ⟨go10, (x4_1 : Int).toNat * 6, none⟩ = some (.int .i64 ((rd_T34 x3_1 x4_1).f0)) := hcc10 0 _ rfl; have hx10_1 : w11.cell? ⟨go10, (x4_1 : Int).toNat * 6 + 1, none⟩ = some (.int .i64 ((rd_T34 x3_1 x4_1).f1.f0)) := hcc10 1 _ rfl; have hx10_2 : w11.cell? ⟨go10, (x4_1 : Int).toNat * 6 + 2, none⟩ = some (.int .i64 ((rd_T34 x3_1 x4_1).f1.f1)) := hcc10 2 _ rfl; have hx10_3 : w11.cell? ⟨go10, (x4_1 : Int).toNat * 6 + 3, none⟩ = some (.string ((rd_T34 x3_1 x4_1).f2)) := hcc10 3 _ rfl; have hx10_4 : w11.cell? ⟨go10, (x4_1 : Int).toNat * 6 + 4, none⟩ = some (ve10_4) := hcc10 4 _ rfl; have hx10_5 : w11.cell? ⟨go10, (x4_1 : Int).toNat * 6 + 5, none⟩ = some (ve10_5) := hcc10 5 _ rfl; have hf10_0 : w11.frozen? ⟨go10, (x4_1 : Int).toNat * 6, none⟩ = false := hfr10 0; have hf10_1 : w11.frozen? ⟨go10, (x4_1 : Int).toNat * 6 + 1, none⟩ = false := hfr10 1; have hf10_2 : w11.frozen? ⟨go10, (x4_1 : Int).toNat * 6 + 2, none⟩ = false := hfr10 2; have hf10_3 : w11.frozen? ⟨go10, (x4_1 : Int).toNat * 6 + 3, none⟩ = false := hfr10 3; have hf10_4 : w11.frozen? ⟨go10, (x4_1 : Int).toNat * 6 + 4, none⟩ = false := hfr10 4; have hf10_5 : w11.frozen? ⟨go10, (x4_1 : Int).toNat * 6 + 5, none⟩ = false := hfr10 5; clear hcl10 hcc10 hfr10 hM10; replace p10 := eq_true p10; replace q10 := eq_true q10; have n_ := zA (Kd.R_mono (ok' := (fun k_ => some k_ ≠ (v135 : Value).ownBlock ∧ some k_ ≠ (v138 : Value).ownBlock)) HO_3.out (fun k_ hk => ⟨hk.1.2, hk.2⟩)); clear HO_3; have HO_3 := n_; clear n_; have HX12 := zA (show Kd.R k34 34 w11 w.heap.size (fun _ => True) (.slice (some ⟨go10, 0, none⟩) x3_1.length co10) x3_1 from (by (with_reducible repeat (first | apply Kd.R_alloc | apply Kd.R_drewN | apply Kd.R_drew)); exact Kd.R_mono HO_3.out (fun _ hk => trivial))); obtain ⟨ce12, hcl12, hM12, hcc12, hfr12⟩ := Kd.R_elem HX12.out z34 (x4_1 : Int) (yF apB) (by have h_ : (x4_1 : Int) < ((x3_1.length : Int) : Int) := yF apB; first | exact h_ | (have e_ := (Kd.R_reads' HO_3.out).1; omega) | simpa using h_); obtain ⟨ve12_4, ve12_5, rfl, ge12_4, ge12_5⟩ := k34_openM hM12; have HP12 := Kd.R_seg HX12.out (x4_1 : Int) (yF apB) (by have h_ : (x4_1 : Int) < ((x3_1.length : Int) : Int) := yF apB; first | exact h_ | (have e_ := (Kd.R_reads' HO_3.out).1; omega) | simpa using h_) (seg := [.int .i64 t130, .int .i64 t131, .int .i64 t132, .string t133, v135, v138]) (j := 0) hcl12 hcc12 (show 6 ≤ 6 from by decide) (x' := (⟨t130, (⟨t131, t132⟩ : S31), t133, t134, t137⟩ : S34)) (k34_mkM _ _ _ (⟨t130, (⟨t131, t132⟩ : S31), t133, t134, t137⟩ : S34) (Kd.R_mono (HO136.out) (fun k_ hk => ⟨trivial, fun e_ => (hk.2) (by rw [e_]; rfl)⟩)) (Kd.R_mono (Kd.R_apart' (HO139.out) (Kd.R_typed HO_3.out) (by decide)) (fun k_ hk => ⟨trivial, fun e_ => (hk.2) (by rw [e_]; rfl)⟩))) (fun _ hk => hk); have hx12_0 := hcc12 0 _ rfl; (try simp only [show (k34).sz = 6 from rfl, Nat.mul_one, Nat.add_zero] at hx12_0); have hf12_0 := hfr12 0; (try simp only [show (k34).sz = 6 from rfl, Nat.mul_one, Nat.add_zero] at hf12_0); have hx12_1 := hcc12 1 _ rfl; (try simp only [show (k34).sz = 6 from rfl, Nat.mul_one, Nat.add_zero] at hx12_1); have hf12_1 := hfr12 1; (try simp only [show (k34).sz = 6 from rfl, Nat.mul_one, Nat.add_zero] at hf12_1); have hx12_2 := hcc12 2 _ rfl; (try simp only [show (k34).sz = 6 from rfl, Nat.mul_one, Nat.add_zero] at hx12_2); have hf12_2 := hfr12 2; (try simp only [show (k34).sz = 6 from rfl, Nat.mul_one, Nat.add_zero] at hf12_2); have hx12_3 := hcc12 3 _ rfl; (try simp only [show (k34).sz = 6 from rfl, Nat.mul_one, Nat.add_zero] at hx12_3); have hf12_3 := hfr12 3; (try simp only [show (k34).sz = 6 from rfl, Nat.mul_one, Nat.add_zero] at hf12_3); have hx12_4 := hcc12 4 _ rfl; (try simp only [show (k34).sz = 6 from rfl, Nat.mul_one, Nat.add_zero] at hx12_4); have hf12_4 := hfr12 4; (try simp only [show (k34).sz = 6 from rfl, Nat.mul_one, Nat.add_zero] at hf12_4); have hx12_5 := hcc12 5 _ rfl; (try simp only [show (k34).sz = 6 from rfl, Nat.mul_one, Nat.add_zero] at hx12_5); have hf12_5 := hfr12 5; (try simp only [show (k34).sz = 6 from rfl, Nat.mul_one, Nat.add_zero] at hf12_5); clear hcl12 hcc12 hfr12 hM12) | ((with_reducible refine zV (t := 34) (p := 21) rfl ?_); refine zX (t := 34) (p := 21) (v := ?vo_w13) (w1 := ((((((w11.setCell ⟨go10, (x4_1 : Int).toNat * 6, none⟩ (.int .i64 t130)).setCell ⟨go10, (x4_1 : Int).toNat * 6 + 1, none⟩ (.int .i64 t131)).setCell ⟨go10, (x4_1 : Int).toNat * 6 + 2, none⟩ (.int .i64 t132)).setCell ⟨go10, (x4_1 : Int).toNat * 6 + 3, none⟩ (.string t133)).setCell ⟨go10, (x4_1 : Int).toNat * 6 + 4, none⟩ (v135)).setCell ⟨go10, (x4_1 : Int).toNat * 6 + 5, none⟩ (v138))) ?hg ?ho ?hn ?hr ?_; (case ho => rfl); (case hg => rfl); (case hn => rfl); (case hr => first | (go_simp; done) | (go_simp; rfl) | (obtain ⟨_, _, rfl, _, _⟩ := Kd.R_reads HO136.out; obtain ⟨_, _, rfl, _, _⟩ := Kd.R_reads HO139.out; go_simp; done)); intro w13 hw; have hg : w11.grownBy w13 (some go10) := (by rw [hw]; exact HP12.2); have hp_ : Kd.R k34 34 w13 w.heap.size (fun _ => True) (.slice (some ⟨go10, 0, none⟩) x3_1.length co10) y140 := (by rw [hw, Ny140.out]; exact HP12.1); clear HP12; replace HO_3 := zA (hp_); replace HB := zA ((by rw [hw]; exact zH (zH (zH (zH (zH (zH (HB.out) GB10.out) GB10.out) GB10.out) GB10.out) GB10.out) GB10.out : Below w.heap.size w w13)); clear HO136 HO139; clear hg hw hp_))
        go_roundg k1
        case measure => have := HK1.out; omega
        case rel => exact ⟨(y140), (wrap64 (x4_1 + 1)), apC, H', ⟨by have := HK1.out; omega⟩, ⟨vwR HO_3.out⟩, ⟨apA⟩⟩
       ·rw [if_neg c9] at H
        exact absurd H (by simp)
      ·rw [if_neg c7] at H
       exact absurd H (by simp)
     ·rw [if_neg c6] at H
      have c6b0 : decide (x4_1 < (l0.length : Int)) = false := decide_eq_false c6
      clear c6
      obtain rfl := yG H
      go_wp2
      go_ret
      exact ⟨_, apD, vwR HO_3.out, apA⟩
  ·rw [if_neg c3] at H
   exact absurd H (by simp)
 ·rw [if_neg c2] at H
  exact absurd H (by simp)

theorem laws_toValue.G.all (k : Nat) : laws_toValue.Spec k ∧ laws_toValueS.Spec k := by
 induction k using Nat.strongRecOn with
 | _ k ih =>
  exact ⟨laws_toValue.step k (fun m hm => (ih m hm).1) (fun m hm => (ih m hm).2), laws_toValueS.step k (fun m hm => (ih m hm).1) (fun m hm => (ih m hm).2)⟩
theorem laws_toValue.calls (k : Nat) : laws_toValue.Spec k := (laws_toValue.G.all k).1
theorem laws_toValueS.calls (k : Nat) : laws_toValueS.Spec k := (laws_toValue.G.all k).2


def laws_eqDec.f (a0_0 : Int) (a0_1 : Int) (a1_0 : Int) (a1_1 : Int) : Option (Bool) := if a0_0 = a1_0 then (if a0_1 = a1_1 then (some true) else (some false)) else (some false)
set_option maxHeartbeats 8000000 in
set_option maxRecDepth 100000 in
theorem laws_eqDec.calls (a0_0 : Int) (a0_1 : Int) (a1_0 : Int) (a1_1 : Int) (r : Bool) (w : World) (h : laws_eqDec.f a0_0 a0_1 a1_0 a1_1 = some r) :
  Calls Tryd.prog 19 #[.agg #[.int .i64 a0_0, .int .i64 a0_1], .agg #[.int .i64 a1_0, .int .i64 a1_1]] w fun e w' => e = .returned (.bool r) ∧ Below w.heap.size w w' := by
 have hu31 := Tryd.underlying31
 have HB := zA (yH w.heap.size w)
 have H : (if a0_0 = a1_0 then (if a0_1 = a1_1 then (some true) else (some false)) else (some false)) = some r := h
 clear h
 by_cases c3 : a0_0 = a1_0
 ·rw [if_pos c3] at H
  have c3b0 : (a0_0 == a1_0) = true := beq_iff_eq.mpr c3
  have c3b1 : (a0_0 != a1_0) = false := bne_eq_false_iff_eq.mpr c3
  clear c3
  by_cases c4 : a0_1 = a1_1
  ·rw [if_pos c4] at H
   have c4b0 : (a0_1 == a1_1) = true := beq_iff_eq.mpr c4
   have c4b1 : (a0_1 != a1_1) = false := bne_eq_false_iff_eq.mpr c4
   clear c4
   obtain rfl := yG H
   go_enter Tryd.func19, Tryd.ntmps19
   go_wp2_with (first | ((with_reducible refine zS (N := 2) rfl ?_); refine zW ?hg (N := 2) ?hd (cs := #[.int .i64 a0_0, .int .i64 a0_1]) (t := 31) ?hr ?_; (case hd => rfl); (case hg => rfl); (case hr => first | (go_simp; done) | (go_simp; rfl)); intro gb363 hg w5 hbox hb; have BK363 := zA (hbox); have GW363 := zA ((by rw [hg]; exact (zQ apA) : w.heap.size ≤ gb363)); have GE363 := zA ((by rw [hg]; exact (zQ apA) : w.heap.size ≤ gb363)); replace HB := zA (zP apA hb); clear hb hbox hg) | ((with_reducible refine zS (N := 3) rfl ?_); refine zW ?hg (N := 3) ?hd (cs := #[.int .i64 a1_0, .int .i64 a1_1]) (t := 31) ?hr ?_; (case hd => rfl); (case hg => rfl); (case hr => first | (go_simp; done) | (go_simp; rfl)); intro gb364 hg w6 hbox hb; have BK364 := zA (hbox); have GW364 := zA ((by rw [hg]; exact (zQ (by repeat (first | (with_reducible first | exact HB.out | apply zG | apply zE | apply zF | refine zH ?_ GE363.out) | exact HB.out))) : w.heap.size ≤ gb364)); have GE364 := zA ((by rw [hg]; exact (zQ (by repeat (first | (with_reducible first | exact HB.out | apply zG | apply zE | apply zF | refine zH ?_ GE363.out) | exact HB.out))) : w.heap.size ≤ gb364)); replace HB := zA (zP (by repeat (first | (with_reducible first | exact HB.out | apply zG | apply zE | apply zF | refine zH ?_ GE363.out) | exact HB.out)) hb); have NB363_364 := zA ((by rw [hg]; exact Nat.ne_of_lt (blk_lt (g := gb363) (o := .cells #[.int .i64 a0_0, .int .i64 a0_1] 31 (0, 0)) (by (with_reducible repeat (first | refine zB ?_ _ | refine zD ?_ | refine zC ?_ _)); exact BK363.out)) : gb363 ≠ gb364)); have NB364_363 := zA ((by rw [hg]; exact Nat.ne_of_gt (blk_lt (g := gb363) (o := .cells #[.int .i64 a0_0, .int .i64 a0_1] 31 (0, 0)) (by (with_reducible repeat (first | refine zB ?_ _ | refine zD ?_ | refine zC ?_ _)); exact BK363.out)) : gb364 ≠ gb363)); replace BK363 := zA (zN (g := gb363) (o := .cells #[.int .i64 a0_0, .int .i64 a0_1] 31 (0, 0)) (by (with_reducible repeat (first | refine zB ?_ _ | refine zD ?_ | refine zC ?_ _)); exact BK363.out) hb); clear hb hbox hg; have hnb7 := NB363_364.out; have hnc7 := NB364_363.out; obtain ⟨hcz8_0, hcz8_1, hfz8_0, hfz8_1⟩ := zb2 BK363.out; obtain ⟨hcz9_0, hcz9_1, hfz9_0, hfz9_1⟩ := zb2 BK364.out))
   go_ret
   exact ⟨apD, by repeat (first | (with_reducible first | exact HB.out | apply zG | apply zE | apply zF | refine zH ?_ GE363.out | refine zH ?_ GE364.out) | exact HB.out)⟩
  ·rw [if_neg c4] at H
   have c4b0 : (a0_1 == a1_1) = false := beq_eq_false_iff_ne.mpr c4
   have c4b1 : (a0_1 != a1_1) = true := bne_iff_ne.mpr c4
   obtain rfl := yG H
   go_enter Tryd.func19, Tryd.ntmps19
   go_wp2_with (first | ((with_reducible refine zS (N := 2) rfl ?_); refine zW ?hg (N := 2) ?hd (cs := #[.int .i64 a0_0, .int .i64 a0_1]) (t := 31) ?hr ?_; (case hd => rfl); (case hg => rfl); (case hr => first | (go_simp; done) | (go_simp; rfl)); intro gb363 hg w10 hbox hb; have BK363 := zA (hbox); have GW363 := zA ((by rw [hg]; exact (zQ apA) : w.heap.size ≤ gb363)); have GE363 := zA ((by rw [hg]; exact (zQ apA) : w.heap.size ≤ gb363)); replace HB := zA (zP apA hb); clear hb hbox hg) | ((with_reducible refine zS (N := 3) rfl ?_); refine zW ?hg (N := 3) ?hd (cs := #[.int .i64 a1_0, .int .i64 a1_1]) (t := 31) ?hr ?_; (case hd => rfl); (case hg => rfl); (case hr => first | (go_simp; done) | (go_simp; rfl)); intro gb364 hg w11 hbox hb; have BK364 := zA (hbox); have GW364 := zA ((by rw [hg]; exact (zQ (by repeat (first | (with_reducible first | exact HB.out | apply zG | apply zE | apply zF | refine zH ?_ GE363.out) | exact HB.out))) : w.heap.size ≤ gb364)); have GE364 := zA ((by rw [hg]; exact (zQ (by repeat (first | (with_reducible first | exact HB.out | apply zG | apply zE | apply zF | refine zH ?_ GE363.out) | exact HB.out))) : w.heap.size ≤ gb364)); replace HB := zA (zP (by repeat (first | (with_reducible first | exact HB.out | apply zG | apply zE | apply zF | refine zH ?_ GE363.out) | exact HB.out)) hb); have NB363_364 := zA ((by rw [hg]; exact Nat.ne_of_lt (blk_lt (g := gb363) (o := .cells #[.int .i64 a0_0, .int .i64 a0_1] 31 (0, 0)) (by (with_reducible repeat (first | refine zB ?_ _ | refine zD ?_ | refine zC ?_ _)); exact BK363.out)) : gb363 ≠ gb364)); have NB364_363 := zA ((by rw [hg]; exact Nat.ne_of_gt (blk_lt (g := gb363) (o := .cells #[.int .i64 a0_0, .int .i64 a0_1] 31 (0, 0)) (by (with_reducible repeat (first | refine zB ?_ _ | refine zD ?_ | refine zC ?_ _)); exact BK363.out)) : gb364 ≠ gb363)); replace BK363 := zA (zN (g := gb363) (o := .cells #[.int .i64 a0_0, .int .i64 a0_1] 31 (0, 0)) (by (with_reducible repeat (first | refine zB ?_ _ | refine zD ?_ | refine zC ?_ _)); exact BK363.out) hb); clear hb hbox hg; have hnb12 := NB363_364.out; have hnc12 := NB364_363.out; obtain ⟨hcz13_0, hcz13_1, hfz13_0, hfz13_1⟩ := zb2 BK363.out; obtain ⟨hcz14_0, hcz14_1, hfz14_0, hfz14_1⟩ := zb2 BK364.out))
   go_ret
   exact ⟨apD, by repeat (first | (with_reducible first | exact HB.out | apply zG | apply zE | apply zF | refine zH ?_ GE363.out | refine zH ?_ GE364.out) | exact HB.out)⟩
 ·rw [if_neg c3] at H
  have c3b0 : (a0_0 == a1_0) = false := beq_eq_false_iff_ne.mpr c3
  have c3b1 : (a0_0 != a1_0) = true := bne_iff_ne.mpr c3
  obtain rfl := yG H
  go_enter Tryd.func19, Tryd.ntmps19
  go_wp2_with (first | ((with_reducible refine zS (N := 2) rfl ?_); refine zW ?hg (N := 2) ?hd (cs := #[.int .i64 a0_0, .int .i64 a0_1]) (t := 31) ?hr ?_; (case hd => rfl); (case hg => rfl); (case hr => first | (go_simp; done) | (go_simp; rfl)); intro gb363 hg w15 hbox hb; have BK363 := zA (hbox); have GW363 := zA ((by rw [hg]; exact (zQ apA) : w.heap.size ≤ gb363)); have GE363 := zA ((by rw [hg]; exact (zQ apA) : w.heap.size ≤ gb363)); replace HB := zA (zP apA hb); clear hb hbox hg) | ((with_reducible refine zS (N := 3) rfl ?_); refine zW ?hg (N := 3) ?hd (cs := #[.int .i64 a1_0, .int .i64 a1_1]) (t := 31) ?hr ?_; (case hd => rfl); (case hg => rfl); (case hr => first | (go_simp; done) | (go_simp; rfl)); intro gb364 hg w16 hbox hb; have BK364 := zA (hbox); have GW364 := zA ((by rw [hg]; exact (zQ (by repeat (first | (with_reducible first | exact HB.out | apply zG | apply zE | apply zF | refine zH ?_ GE363.out) | exact HB.out))) : w.heap.size ≤ gb364)); have GE364 := zA ((by rw [hg]; exact (zQ (by repeat (first | (with_reducible first | exact HB.out | apply zG | apply zE | apply zF | refine zH ?_ GE363.out) | exact HB.out))) : w.heap.size ≤ gb364)); replace HB := zA (zP (by repeat (first | (with_reducible first | exact HB.out | apply zG | apply zE | apply zF | refine zH ?_ GE363.out) | exact HB.out)) hb); have NB363_364 := zA ((by rw [hg]; exact Nat.ne_of_lt (blk_lt (g := gb363) (o := .cells #[.int .i64 a0_0, .int .i64 a0_1] 31 (0, 0)) (by (with_reducible repeat (first | refine zB ?_ _ | refine zD ?_ | refine zC ?_ _)); exact BK363.out)) : gb363 ≠ gb364)); have NB364_363 := zA ((by rw [hg]; exact Nat.ne_of_gt (blk_lt (g := gb363) (o := .cells #[.int .i64 a0_0, .int .i64 a0_1] 31 (0, 0)) (by (with_reducible repeat (first | refine zB ?_ _ | refine zD ?_ | refine zC ?_ _)); exact BK363.out)) : gb364 ≠ gb363)); replace BK363 := zA (zN (g := gb363) (o := .cells #[.int .i64 a0_0, .int .i64 a0_1] 31 (0, 0)) (by (with_reducible repeat (first | refine zB ?_ _ | refine zD ?_ | refine zC ?_ _)); exact BK363.out) hb); clear hb hbox hg; have hnb17 := NB363_364.out; have hnc17 := NB364_363.out; obtain ⟨hcz18_0, hcz18_1, hfz18_0, hfz18_1⟩ := zb2 BK363.out; obtain ⟨hcz19_0, hcz19_1, hfz19_0, hfz19_1⟩ := zb2 BK364.out))
  go_ret
  exact ⟨apD, by repeat (first | (with_reducible first | exact HB.out | apply zG | apply zE | apply zF | refine zH ?_ GE363.out | refine zH ?_ GE364.out) | exact HB.out)⟩


def laws_eqValueS.T6 : Bool × List (List Nat × List Nat) := (true, [([], []), ([], []), ([0, 1], [0, 1]), ([2], [2]), ([], []), ([], []), ([4, 5], [4, 5]), ([6], [6]), ([3, 7], [3, 7]), ([8], [8])])
def laws_eqValueS.B6 : List Nat := [0, 0, 3, 7, 0, 0, 48, 112, 255, 511]
theorem laws_eqValueS.tab6 : rtab .any (opsOf Tryd.f20 6) = laws_eqValueS.T6 := by kernel_rfl
theorem laws_eqValueS.bits6 : waitsOk laws_eqValueS.T6.2 laws_eqValueS.B6 = true := by kernel_rfl
mutual
def laws_eqValue.f : Nat → Int → Int → Int → ByteArray → List (S34) → List ByteArray → Int → Int → Int → ByteArray → List (S34) → List ByteArray → Option (Bool)
 | 0, _, _, _, _, _, _, _, _, _, _, _, _ => none
 | k + 1, a0_0, a0_1, a0_2, a0_3, l0_4, l0_5, a1_0, a1_1, a1_2, a1_3, l1_4, l1_5 => if a0_0 = a1_0 then ((laws_eqDec.f a0_1 a0_2 a1_1 a1_2).bind fun t369 => (if t369 = true then (if a0_3.toList = a1_3.toList then ((laws_eqValueS.f k l0_4 l1_4).bind fun t370 => (if t370 = true then ((laws_eqStringS.f k l0_5 l1_5).bind fun t371 => (if t371 = true then (some true) else (some false))) else (some false))) else (some false)) else (some false))) else (some false)
def laws_eqValueS.l0 : Nat → List (S34) → List (S34) → Int → Option (Bool)
 | 0, _, _, _ => none
 | k + 1, x0, x1, x5 => if x5 < (x0.length : Int) then (if 0 ≤ x5 then (if x5 < (x1.length : Int) then ((laws_eqValue.f k ((rd_T34 x0 x5).f0) ((rd_T34 x0 x5).f1.f0) ((rd_T34 x0 x5).f1.f1) ((rd_T34 x0 x5).f2) ((rd_T34 x0 x5).f3) ((rd_T34 x0 x5).f4) ((rd_T34 x1 x5).f0) ((rd_T34 x1 x5).f1.f0) ((rd_T34 x1 x5).f1.f1) ((rd_T34 x1 x5).f2) ((rd_T34 x1 x5).f3) ((rd_T34 x1 x5).f4)).bind fun t374 => (if t374 = true then (laws_eqValueS.l0 k x0 x1 (wrap64 (x5 + 1))) else (some false))) else (none)) else (none)) else (some true)
def laws_eqValueS.f : Nat → List (S34) → List (S34) → Option (Bool)
 | 0, _, _ => none
 | k + 1, l0, l1 => if (l0.length : Int) = (l1.length : Int) then (laws_eqValueS.l0 k l0 l1 0) else (some false)
end
theorem laws_eqValue.G.mono_l : ∀ k, (∀ y0 y1 y2 y3 y4 y5 y6 y7 y8 y9 y10 y11, LeO (laws_eqValue.f k y0 y1 y2 y3 y4 y5 y6 y7 y8 y9 y10 y11) (laws_eqValue.f (k + 1) y0 y1 y2 y3 y4 y5 y6 y7 y8 y9 y10 y11)) ∧ (∀ y0 y1, LeO (laws_eqValueS.f k y0 y1) (laws_eqValueS.f (k + 1) y0 y1)) ∧ (∀ y0 y1 y2, LeO (laws_eqValueS.l0 k y0 y1 y2) (laws_eqValueS.l0 (k + 1) y0 y1 y2))
 | 0 => ⟨fun _ _ _ _ _ _ _ _ _ _ _ _ r h => by simp [laws_eqValue.f] at h, fun _ _ r h => by simp [laws_eqValueS.f] at h, fun _ _ _ r h => by simp [laws_eqValueS.l0] at h⟩
 | k + 1 => by
  obtain ⟨ih0, ih1, ih2⟩ := laws_eqValue.G.mono_l k
  refine ⟨?_, ?_, ?_⟩
  ·intro y0 y1 y2 y3 y4 y5 y6 y7 y8 y9 y10 y11
   unfold laws_eqValue.f
   repeat' first
   | (with_reducible exact ih0 _ _ _ _ _ _ _ _ _ _ _ _)
   | (with_reducible exact ih1 _ _)
   | (with_reducible exact ih2 _ _ _)
   | (with_reducible exact laws_eqStringS.mono _ _ _)
   | (with_reducible exact LeO.refl _)
   | (with_reducible exact LeO.none _)
   | (with_reducible refine LeO.ite ?_ ?_)
   | (with_reducible refine LeO.bind ?_ (fun _ => ?_))
   | exact ih0 _ _ _ _ _ _ _ _ _ _ _ _
   | exact ih1 _ _
   | exact ih2 _ _ _
  ·intro y0 y1
   unfold laws_eqValueS.f
   repeat' first
   | (with_reducible exact ih0 _ _ _ _ _ _ _ _ _ _ _ _)
   | (with_reducible exact ih1 _ _)
   | (with_reducible exact ih2 _ _ _)
   | (with_reducible exact laws_eqStringS.mono _ _ _)
   | (with_reducible exact LeO.refl _)
   | (with_reducible exact LeO.none _)
   | (with_reducible refine LeO.ite ?_ ?_)
   | (with_reducible refine LeO.bind ?_ (fun _ => ?_))
   | exact ih0 _ _ _ _ _ _ _ _ _ _ _ _
   | exact ih1 _ _
   | exact ih2 _ _ _
  ·intro y0 y1 y2
   unfold laws_eqValueS.l0
   repeat' first
   | (with_reducible exact ih0 _ _ _ _ _ _ _ _ _ _ _ _)
   | (with_reducible exact ih1 _ _)
   | (with_reducible exact ih2 _ _ _)
   | (with_reducible exact laws_eqStringS.mono _ _ _)
   | (with_reducible exact LeO.refl _)
   | (with_reducible exact LeO.none _)
   | (with_reducible refine LeO.ite ?_ ?_)
   | (with_reducible refine LeO.bind ?_ (fun _ => ?_))
   | exact ih0 _ _ _ _ _ _ _ _ _ _ _ _
   | exact ih1 _ _
   | exact ih2 _ _ _
theorem laws_eqValue.mono : ∀ a0 a1 a2 a3 a4 a5 a6 a7 a8 a9 a10 a11 k, LeO (laws_eqValue.f k a0 a1 a2 a3 a4 a5 a6 a7 a8 a9 a10 a11) (laws_eqValue.f (k + 1) a0 a1 a2 a3 a4 a5 a6 a7 a8 a9 a10 a11) := fun a0 a1 a2 a3 a4 a5 a6 a7 a8 a9 a10 a11 k => (laws_eqValue.G.mono_l k).1 a0 a1 a2 a3 a4 a5 a6 a7 a8 a9 a10 a11
theorem laws_eqValueS.mono : ∀ a0 a1 k, LeO (laws_eqValueS.f k a0 a1) (laws_eqValueS.f (k + 1) a0 a1) := fun a0 a1 k => (laws_eqValue.G.mono_l k).2.1 a0 a1
abbrev laws_eqValue.Spec (k : Nat) : Prop := ∀ (a0_0 : Int) (a0_1 : Int) (a0_2 : Int) (a0_3 : ByteArray) (A0_4 : Option Addr) (c0_4 : Nat) (l0_4 : List (S34)) (A0_5 : Option Addr) (c0_5 : Nat) (l0_5 : List ByteArray) (a1_0 : Int) (a1_1 : Int) (a1_2 : Int) (a1_3 : ByteArray) (A1_4 : Option Addr) (c1_4 : Nat) (l1_4 : List (S34)) (A1_5 : Option Addr) (c1_5 : Nat) (l1_5 : List ByteArray) (r : Bool) (w : World) (hr0_4 : Kd.C k34 w A0_4 l0_4.length l0_4) (hc0_4 : l0_4.length ≤ c0_4) (hr0_5 : Kd.C Kd.string w A0_5 l0_5.length l0_5) (hc0_5 : l0_5.length ≤ c0_5) (hr1_4 : Kd.C k34 w A1_4 l1_4.length l1_4) (hc1_4 : l1_4.length ≤ c1_4) (hr1_5 : Kd.C Kd.string w A1_5 l1_5.length l1_5) (hc1_5 : l1_5.length ≤ c1_5) (h : laws_eqValue.f k a0_0 a0_1 a0_2 a0_3 l0_4 l0_5 a1_0 a1_1 a1_2 a1_3 l1_4 l1_5 = some r),
  Calls Tryd.prog 8 #[.agg #[.int .i64 a0_0, .int .i64 a0_1, .int .i64 a0_2, .string a0_3, .slice A0_4 l0_4.length c0_4, .slice A0_5 l0_5.length c0_5], .agg #[.int .i64 a1_0, .int .i64 a1_1, .int .i64 a1_2, .string a1_3, .slice A1_4 l1_4.length c1_4, .slice A1_5 l1_5.length c1_5]] w fun e w' => e = .returned (.bool r) ∧ Below w.heap.size w w'
abbrev laws_eqValueS.Spec (k : Nat) : Prop := ∀ (A0 : Option Addr) (c0 : Nat) (l0 : List (S34)) (A1 : Option Addr) (c1 : Nat) (l1 : List (S34)) (r : Bool) (w : World) (hr0 : Kd.C k34 w A0 l0.length l0) (hc0 : l0.length ≤ c0) (hr1 : Kd.C k34 w A1 l1.length l1) (hc1 : l1.length ≤ c1) (h : laws_eqValueS.f k l0 l1 = some r),
  Calls Tryd.prog 20 #[.slice A0 l0.length c0, .slice A1 l1.length c1] w fun e w' => e = .returned (.bool r) ∧ Below w.heap.size w w'
set_option maxHeartbeats 8000000 in
set_option maxRecDepth 100000 in
theorem laws_eqValue.step (k : Nat) (ih_laws_eqValue : ∀ m, m < k → laws_eqValue.Spec m) (ih_laws_eqValueS : ∀ m, m < k → laws_eqValueS.Spec m) : laws_eqValue.Spec k := by
 intro a0_0 a0_1 a0_2 a0_3 A0_4 c0_4 l0_4 A0_5 c0_5 l0_5 a1_0 a1_1 a1_2 a1_3 A1_4 c1_4 l1_4 A1_5 c1_5 l1_5 r w hr0_4 hc0_4 hr0_5 hc0_5 hr1_4 hc1_4 hr1_5 hc1_5 h
 cases k with
 | zero => exact absurd h (by simp [laws_eqValue.f])
 | succ k =>
 simp only [laws_eqValue.f] at h
 have hu34 := Tryd.underlying34
 have hu31 := Tryd.underlying31
 have HR0_4 := zA hr0_4
 have HC0_4 := zA hc0_4
 clear hr0_4 hc0_4
 have HR0_5 := zA hr0_5
 have HC0_5 := zA hc0_5
 clear hr0_5 hc0_5
 have HR1_4 := zA hr1_4
 have HC1_4 := zA hc1_4
 clear hr1_4 hc1_4
 have HR1_5 := zA hr1_5
 have HC1_5 := zA hc1_5
 clear hr1_5 hc1_5
 have HB := zA (yH w.heap.size w)
 have H : (if a0_0 = a1_0 then ((laws_eqDec.f a0_1 a0_2 a1_1 a1_2).bind fun t369 => (if t369 = true then (if a0_3.toList = a1_3.toList then ((laws_eqValueS.f k l0_4 l1_4).bind fun t370 => (if t370 = true then ((laws_eqStringS.f k l0_5 l1_5).bind fun t371 => (if t371 = true then (some true) else (some false))) else (some false))) else (some false)) else (some false))) else (some false)) = some r := h
 clear h
 by_cases c3 : a0_0 = a1_0
 ·rw [if_pos c3] at H
  have c3b0 : (a0_0 == a1_0) = true := beq_iff_eq.mpr c3
  have c3b1 : (a0_0 != a1_0) = false := bne_eq_false_iff_eq.mpr c3
  clear c3
  replace H := Option.bind_eq_some_iff.mp H
  obtain ⟨t369, A40, H⟩ := H
  have A4 := zA A40
  clear A40
  by_cases c5 : t369 = true
  ·subst c5
   have H1 := H; rw [if_pos rfl] at H1
   clear H
   have H := H1
   clear H1
   by_cases c6 : a0_3.toList = a1_3.toList
   ·rw [if_pos c6] at H
    have c6b0 : (a0_3.toList == a1_3.toList) = true := beq_iff_eq.mpr c6
    have c6b1 : (a0_3.toList != a1_3.toList) = false := bne_eq_false_iff_eq.mpr c6
    clear c6
    replace H := Option.bind_eq_some_iff.mp H
    obtain ⟨t370, A70, H⟩ := H
    have A7 := zA A70
    clear A70
    by_cases c8 : t370 = true
    ·subst c8
     have H1 := H; rw [if_pos rfl] at H1
     clear H
     have H := H1
     clear H1
     replace H := Option.bind_eq_some_iff.mp H
     obtain ⟨t371, A90, H⟩ := H
     have A9 := zA A90
     clear A90
     by_cases c10 : t371 = true
     ·subst c10
      have H1 := H; rw [if_pos rfl] at H1
      clear H
      have H := H1
      clear H1
      obtain rfl := yG H
      go_enter Tryd.func8, Tryd.ntmps8
      go_wp2_with (first | ((with_reducible refine zS (N := 2) rfl ?_); refine zW ?hg (N := 2) ?hd (cs := #[.int .i64 a0_0, .int .i64 a0_1, .int .i64 a0_2, .string a0_3, .slice A0_4 l0_4.length c0_4, .slice A0_5 l0_5.length c0_5]) (t := 34) ?hr ?_; (case hd => rfl); (case hg => rfl); (case hr => first | (go_simp; done) | (go_simp; rfl)); intro gb367 hg w11 hbox hb; have BK367 := zA (hbox); have GW367 := zA ((by rw [hg]; exact (zQ apA) : w.heap.size ≤ gb367)); have GE367 := zA ((by rw [hg]; exact (zQ apA) : w.heap.size ≤ gb367)); replace HB := zA (zP apA hb); clear hb hbox hg) | ((with_reducible refine zS (N := 3) rfl ?_); refine zW ?hg (N := 3) ?hd (cs := #[.int .i64 a1_0, .int .i64 a1_1, .int .i64 a1_2, .string a1_3, .slice A1_4 l1_4.length c1_4, .slice A1_5 l1_5.length c1_5]) (t := 34) ?hr ?_; (case hd => rfl); (case hg => rfl); (case hr => first | (go_simp; done) | (go_simp; rfl)); intro gb368 hg w12 hbox hb; have BK368 := zA (hbox); have GW368 := zA ((by rw [hg]; exact (zQ apN) : w.heap.size ≤ gb368)); have GE368 := zA ((by rw [hg]; exact (zQ apN) : w.heap.size ≤ gb368)); replace HB := zA (zP apN hb); have NB367_368 := zA ((by rw [hg]; exact Nat.ne_of_lt (blk_lt (g := gb367) (o := .cells #[.int .i64 a0_0, .int .i64 a0_1, .int .i64 a0_2, .string a0_3, .slice A0_4 l0_4.length c0_4, .slice A0_5 l0_5.length c0_5] 34 (0, 0)) apJ) : gb367 ≠ gb368)); have NB368_367 := zA ((by rw [hg]; exact Nat.ne_of_gt (blk_lt (g := gb367) (o := .cells #[.int .i64 a0_0, .int .i64 a0_1, .int .i64 a0_2, .string a0_3, .slice A0_4 l0_4.length c0_4, .slice A0_5 l0_5.length c0_5] 34 (0, 0)) apJ) : gb368 ≠ gb367)); replace BK367 := zA (zN (g := gb367) (o := .cells #[.int .i64 a0_0, .int .i64 a0_1, .int .i64 a0_2, .string a0_3, .slice A0_4 l0_4.length c0_4, .slice A0_5 l0_5.length c0_5] 34 (0, 0)) apJ hb); clear hb hbox hg; have hnb13 := NB367_368.out; have hnc13 := NB368_367.out; obtain ⟨hcz14_0, hcz14_1, hcz14_2, hcz14_3, hcz14_4, hcz14_5, hfz14_0, hfz14_1, hfz14_2, hfz14_3, hfz14_4, hfz14_5⟩ := zb6 BK367.out; obtain ⟨hcz15_0, hcz15_1, hcz15_2, hcz15_3, hcz15_4, hcz15_5, hfz15_0, hfz15_1, hfz15_2, hfz15_3, hfz15_4, hfz15_5⟩ := zb6 BK368.out) | ((with_reducible refine zT (f := 19) rfl ?_); refine goesL_ (some 14) rfl rfl Tryd.func19 (by kernel_rfl) rfl #[.agg #[.int .i64 a0_1, .int .i64 a0_2], .agg #[.int .i64 a1_1, .int .i64 a1_2]] rfl apE ?_; (with_reducible refine (laws_eqDec.calls a0_1 a0_2 a1_1 a1_2 true _ A4.out).mono ?_); rintro e w16 ⟨rfl, hb⟩; refine ⟨_, rfl, ?_⟩; replace BK367 := zA (zN (g := gb367) (o := .cells #[.int .i64 a0_0, .int .i64 a0_1, .int .i64 a0_2, .string a0_3, .slice A0_4 l0_4.length c0_4, .slice A0_5 l0_5.length c0_5] 34 (0, 0)) apJ hb); replace BK368 := zA (zN (g := gb368) (o := .cells #[.int .i64 a1_0, .int .i64 a1_1, .int .i64 a1_2, .string a1_3, .slice A1_4 l1_4.length c1_4, .slice A1_5 l1_5.length c1_5] 34 (0, 0)) (by (with_reducible repeat (first | refine zB ?_ _ | refine zD ?_ | refine zC ?_ _)); exact BK368.out) hb); replace HB := zA (zP apX hb); (try clear hb); (try clear hb2); (try clear hk); (try clear hi); obtain ⟨hcz17_0, hcz17_1, hcz17_2, hcz17_3, hcz17_4, hcz17_5, hfz17_0, hfz17_1, hfz17_2, hfz17_3, hfz17_4, hfz17_5⟩ := zb6 BK367.out; obtain ⟨hcz18_0, hcz18_1, hcz18_2, hcz18_3, hcz18_4, hcz18_5, hfz18_0, hfz18_1, hfz18_2, hfz18_3, hfz18_4, hfz18_5⟩ := zb6 BK368.out) | ((with_reducible refine zT (f := 20) rfl ?_); refine goesL_ (some 25) rfl rfl Tryd.func20 (by kernel_rfl) rfl #[.slice A0_4 l0_4.length c0_4, .slice A1_4 l1_4.length c1_4] rfl apE ?_; (with_reducible refine (ih_laws_eqValueS k (by omega) _ _ l0_4 _ _ l1_4 true _ ?side1 ?side2 ?side3 ?side4 A7.out).mono ?_); (case side1 => exact vc (Kd.C_below HR0_4.out HB.out)); (case side2 => exact HC0_4.out); (case side3 => exact vc (Kd.C_below HR1_4.out HB.out)); (case side4 => exact HC1_4.out); rintro e w19 ⟨rfl, hb⟩; refine ⟨_, rfl, ?_⟩; replace BK367 := zA (zN (g := gb367) (o := .cells #[.int .i64 a0_0, .int .i64 a0_1, .int .i64 a0_2, .string a0_3, .slice A0_4 l0_4.length c0_4, .slice A0_5 l0_5.length c0_5] 34 (0, 0)) apJ hb); replace BK368 := zA (zN (g := gb368) (o := .cells #[.int .i64 a1_0, .int .i64 a1_1, .int .i64 a1_2, .string a1_3, .slice A1_4 l1_4.length c1_4, .slice A1_5 l1_5.length c1_5] 34 (0, 0)) (by (with_reducible repeat (first | refine zB ?_ _ | refine zD ?_ | refine zC ?_ _)); exact BK368.out) hb); replace HB := zA (zP apX hb); (try clear hb); (try clear hb2); (try clear hk); (try clear hi); obtain ⟨hcz20_0, hcz20_1, hcz20_2, hcz20_3, hcz20_4, hcz20_5, hfz20_0, hfz20_1, hfz20_2, hfz20_3, hfz20_4, hfz20_5⟩ := zb6 BK367.out; obtain ⟨hcz21_0, hcz21_1, hcz21_2, hcz21_3, hcz21_4, hcz21_5, hfz21_0, hfz21_1, hfz21_2, hfz21_3, hfz21_4, hfz21_5⟩ := zb6 BK368.out) | ((with_reducible refine zT (f := 21) rfl ?_); refine goesL_ (some 31) rfl rfl Tryd.func21 (by kernel_rfl) rfl #[.slice A0_5 l0_5.length c0_5, .slice A1_5 l1_5.length c1_5] rfl apE ?_; (with_reducible refine (laws_eqStringS.calls k _ _ l0_5 _ _ l1_5 true _ ?side1 ?side2 ?side3 ?side4 A9.out).mono ?_); (case side1 => exact vc (Kd.C_below HR0_5.out HB.out)); (case side2 => exact HC0_5.out); (case side3 => exact vc (Kd.C_below HR1_5.out HB.out)); (case side4 => exact HC1_5.out); rintro e w' ⟨rfl, ⟨nd, rfl⟩⟩; refine ⟨_, rfl, ?_⟩))
      go_ret
      exact ⟨apD, apA⟩
     ·replace c10 := Bool.eq_false_iff.mpr c10
      subst c10
      have H1 := H; rw [if_neg (show ¬ (false = true) by decide)] at H1
      clear H
      have H := H1
      clear H1
      obtain rfl := yG H
      go_enter Tryd.func8, Tryd.ntmps8
      go_wp2_with (first | ((with_reducible refine zS (N := 2) rfl ?_); refine zW ?hg (N := 2) ?hd (cs := #[.int .i64 a0_0, .int .i64 a0_1, .int .i64 a0_2, .string a0_3, .slice A0_4 l0_4.length c0_4, .slice A0_5 l0_5.length c0_5]) (t := 34) ?hr ?_; (case hd => rfl); (case hg => rfl); (case hr => first | (go_simp; done) | (go_simp; rfl)); intro gb367 hg w22 hbox hb; have BK367 := zA (hbox); have GW367 := zA ((by rw [hg]; exact (zQ apA) : w.heap.size ≤ gb367)); have GE367 := zA ((by rw [hg]; exact (zQ apA) : w.heap.size ≤ gb367)); replace HB := zA (zP apA hb); clear hb hbox hg) | ((with_reducible refine zS (N := 3) rfl ?_); refine zW ?hg (N := 3) ?hd (cs := #[.int .i64 a1_0, .int .i64 a1_1, .int .i64 a1_2, .string a1_3, .slice A1_4 l1_4.length c1_4, .slice A1_5 l1_5.length c1_5]) (t := 34) ?hr ?_; (case hd => rfl); (case hg => rfl); (case hr => first | (go_simp; done) | (go_simp; rfl)); intro gb368 hg w23 hbox hb; have BK368 := zA (hbox); have GW368 := zA ((by rw [hg]; exact (zQ apN) : w.heap.size ≤ gb368)); have GE368 := zA ((by rw [hg]; exact (zQ apN) : w.heap.size ≤ gb368)); replace HB := zA (zP apN hb); have NB367_368 := zA ((by rw [hg]; exact Nat.ne_of_lt (blk_lt (g := gb367) (o := .cells #[.int .i64 a0_0, .int .i64 a0_1, .int .i64 a0_2, .string a0_3, .slice A0_4 l0_4.length c0_4, .slice A0_5 l0_5.length c0_5] 34 (0, 0)) apJ) : gb367 ≠ gb368)); have NB368_367 := zA ((by rw [hg]; exact Nat.ne_of_gt (blk_lt (g := gb367) (o := .cells #[.int .i64 a0_0, .int .i64 a0_1, .int .i64 a0_2, .string a0_3, .slice A0_4 l0_4.length c0_4, .slice A0_5 l0_5.length c0_5] 34 (0, 0)) apJ) : gb368 ≠ gb367)); replace BK367 := zA (zN (g := gb367) (o := .cells #[.int .i64 a0_0, .int .i64 a0_1, .int .i64 a0_2, .string a0_3, .slice A0_4 l0_4.length c0_4, .slice A0_5 l0_5.length c0_5] 34 (0, 0)) apJ hb); clear hb hbox hg; have hnb24 := NB367_368.out; have hnc24 := NB368_367.out; obtain ⟨hcz25_0, hcz25_1, hcz25_2, hcz25_3, hcz25_4, hcz25_5, hfz25_0, hfz25_1, hfz25_2, hfz25_3, hfz25_4, hfz25_5⟩ := zb6 BK367.out; obtain ⟨hcz26_0, hcz26_1, hcz26_2, hcz26_3, hcz26_4, hcz26_5, hfz26_0, hfz26_1, hfz26_2, hfz26_3, hfz26_4, hfz26_5⟩ := zb6 BK368.out) | ((with_reducible refine zT (f := 19) rfl ?_); refine goesL_ (some 14) rfl rfl Tryd.func19 (by kernel_rfl) rfl #[.agg #[.int .i64 a0_1, .int .i64 a0_2], .agg #[.int .i64 a1_1, .int .i64 a1_2]] rfl apE ?_; (with_reducible refine (laws_eqDec.calls a0_1 a0_2 a1_1 a1_2 true _ A4.out).mono ?_); rintro e w27 ⟨rfl, hb⟩; refine ⟨_, rfl, ?_⟩; replace BK367 := zA (zN (g := gb367) (o := .cells #[.int .i64 a0_0, .int .i64 a0_1, .int .i64 a0_2, .string a0_3, .slice A0_4 l0_4.length c0_4, .slice A0_5 l0_5.length c0_5] 34 (0, 0)) apJ hb); replace BK368 := zA (zN (g := gb368) (o := .cells #[.int .i64 a1_0, .int .i64 a1_1, .int .i64 a1_2, .string a1_3, .slice A1_4 l1_4.length c1_4, .slice A1_5 l1_5.length c1_5] 34 (0, 0)) (by (with_reducible repeat (first | refine zB ?_ _ | refine zD ?_ | refine zC ?_ _)); exact BK368.out) hb); replace HB := zA (zP apX hb); (try clear hb); (try clear hb2); (try clear hk); (try clear hi); obtain ⟨hcz28_0, hcz28_1, hcz28_2, hcz28_3, hcz28_4, hcz28_5, hfz28_0, hfz28_1, hfz28_2, hfz28_3, hfz28_4, hfz28_5⟩ := zb6 BK367.out; obtain ⟨hcz29_0, hcz29_1, hcz29_2, hcz29_3, hcz29_4, hcz29_5, hfz29_0, hfz29_1, hfz29_2, hfz29_3, hfz29_4, hfz29_5⟩ := zb6 BK368.out) | ((with_reducible refine zT (f := 20) rfl ?_); refine goesL_ (some 25) rfl rfl Tryd.func20 (by kernel_rfl) rfl #[.slice A0_4 l0_4.length c0_4, .slice A1_4 l1_4.length c1_4] rfl apE ?_; (with_reducible refine (ih_laws_eqValueS k (by omega) _ _ l0_4 _ _ l1_4 true _ ?side1 ?side2 ?side3 ?side4 A7.out).mono ?_); (case side1 => exact vc (Kd.C_below HR0_4.out HB.out)); (case side2 => exact HC0_4.out); (case side3 => exact vc (Kd.C_below HR1_4.out HB.out)); (case side4 => exact HC1_4.out); rintro e w30 ⟨rfl, hb⟩; refine ⟨_, rfl, ?_⟩; replace BK367 := zA (zN (g := gb367) (o := .cells #[.int .i64 a0_0, .int .i64 a0_1, .int .i64 a0_2, .string a0_3, .slice A0_4 l0_4.length c0_4, .slice A0_5 l0_5.length c0_5] 34 (0, 0)) apJ hb); replace BK368 := zA (zN (g := gb368) (o := .cells #[.int .i64 a1_0, .int .i64 a1_1, .int .i64 a1_2, .string a1_3, .slice A1_4 l1_4.length c1_4, .slice A1_5 l1_5.length c1_5] 34 (0, 0)) (by (with_reducible repeat (first | refine zB ?_ _ | refine zD ?_ | refine zC ?_ _)); exact BK368.out) hb); replace HB := zA (zP apX hb); (try clear hb); (try clear hb2); (try clear hk); (try clear hi); obtain ⟨hcz31_0, hcz31_1, hcz31_2, hcz31_3, hcz31_4, hcz31_5, hfz31_0, hfz31_1, hfz31_2, hfz31_3, hfz31_4, hfz31_5⟩ := zb6 BK367.out; obtain ⟨hcz32_0, hcz32_1, hcz32_2, hcz32_3, hcz32_4, hcz32_5, hfz32_0, hfz32_1, hfz32_2, hfz32_3, hfz32_4, hfz32_5⟩ := zb6 BK368.out) | ((with_reducible refine zT (f := 21) rfl ?_); refine goesL_ (some 31) rfl rfl Tryd.func21 (by kernel_rfl) rfl #[.slice A0_5 l0_5.length c0_5, .slice A1_5 l1_5.length c1_5] rfl apE ?_; (with_reducible refine (laws_eqStringS.calls k _ _ l0_5 _ _ l1_5 false _ ?side1 ?side2 ?side3 ?side4 A9.out).mono ?_); (case side1 => exact vc (Kd.C_below HR0_5.out HB.out)); (case side2 => exact HC0_5.out); (case side3 => exact vc (Kd.C_below HR1_5.out HB.out)); (case side4 => exact HC1_5.out); rintro e w' ⟨rfl, ⟨nd, rfl⟩⟩; refine ⟨_, rfl, ?_⟩))
      go_ret
      exact ⟨apD, apA⟩
    ·replace c8 := Bool.eq_false_iff.mpr c8
     subst c8
     have H1 := H; rw [if_neg (show ¬ (false = true) by decide)] at H1
     clear H
     have H := H1
     clear H1
     obtain rfl := yG H
     go_enter Tryd.func8, Tryd.ntmps8
     go_wp2_with (first | ((with_reducible refine zS (N := 2) rfl ?_); refine zW ?hg (N := 2) ?hd (cs := #[.int .i64 a0_0, .int .i64 a0_1, .int .i64 a0_2, .string a0_3, .slice A0_4 l0_4.length c0_4, .slice A0_5 l0_5.length c0_5]) (t := 34) ?hr ?_; (case hd => rfl); (case hg => rfl); (case hr => first | (go_simp; done) | (go_simp; rfl)); intro gb367 hg w33 hbox hb; have BK367 := zA (hbox); have GW367 := zA ((by rw [hg]; exact (zQ apA) : w.heap.size ≤ gb367)); have GE367 := zA ((by rw [hg]; exact (zQ apA) : w.heap.size ≤ gb367)); replace HB := zA (zP apA hb); clear hb hbox hg) | ((with_reducible refine zS (N := 3) rfl ?_); refine zW ?hg (N := 3) ?hd (cs := #[.int .i64 a1_0, .int .i64 a1_1, .int .i64 a1_2, .string a1_3, .slice A1_4 l1_4.length c1_4, .slice A1_5 l1_5.length c1_5]) (t := 34) ?hr ?_; (case hd => rfl); (case hg => rfl); (case hr => first | (go_simp; done) | (go_simp; rfl)); intro gb368 hg w34 hbox hb; have BK368 := zA (hbox); have GW368 := zA ((by rw [hg]; exact (zQ apN) : w.heap.size ≤ gb368)); have GE368 := zA ((by rw [hg]; exact (zQ apN) : w.heap.size ≤ gb368)); replace HB := zA (zP apN hb); have NB367_368 := zA ((by rw [hg]; exact Nat.ne_of_lt (blk_lt (g := gb367) (o := .cells #[.int .i64 a0_0, .int .i64 a0_1, .int .i64 a0_2, .string a0_3, .slice A0_4 l0_4.length c0_4, .slice A0_5 l0_5.length c0_5] 34 (0, 0)) apJ) : gb367 ≠ gb368)); have NB368_367 := zA ((by rw [hg]; exact Nat.ne_of_gt (blk_lt (g := gb367) (o := .cells #[.int .i64 a0_0, .int .i64 a0_1, .int .i64 a0_2, .string a0_3, .slice A0_4 l0_4.length c0_4, .slice A0_5 l0_5.length c0_5] 34 (0, 0)) apJ) : gb368 ≠ gb367)); replace BK367 := zA (zN (g := gb367) (o := .cells #[.int .i64 a0_0, .int .i64 a0_1, .int .i64 a0_2, .string a0_3, .slice A0_4 l0_4.length c0_4, .slice A0_5 l0_5.length c0_5] 34 (0, 0)) apJ hb); clear hb hbox hg; have hnb35 := NB367_368.out; have hnc35 := NB368_367.out; obtain ⟨hcz36_0, hcz36_1, hcz36_2, hcz36_3, hcz36_4, hcz36_5, hfz36_0, hfz36_1, hfz36_2, hfz36_3, hfz36_4, hfz36_5⟩ := zb6 BK367.out; obtain ⟨hcz37_0, hcz37_1, hcz37_2, hcz37_3, hcz37_4, hcz37_5, hfz37_0, hfz37_1, hfz37_2, hfz37_3, hfz37_4, hfz37_5⟩ := zb6 BK368.out) | ((with_reducible refine zT (f := 19) rfl ?_); refine goesL_ (some 14) rfl rfl Tryd.func19 (by kernel_rfl) rfl #[.agg #[.int .i64 a0_1, .int .i64 a0_2], .agg #[.int .i64 a1_1, .int .i64 a1_2]] rfl apE ?_; (with_reducible refine (laws_eqDec.calls a0_1 a0_2 a1_1 a1_2 true _ A4.out).mono ?_); rintro e w38 ⟨rfl, hb⟩; refine ⟨_, rfl, ?_⟩; replace BK367 := zA (zN (g := gb367) (o := .cells #[.int .i64 a0_0, .int .i64 a0_1, .int .i64 a0_2, .string a0_3, .slice A0_4 l0_4.length c0_4, .slice A0_5 l0_5.length c0_5] 34 (0, 0)) apJ hb); replace BK368 := zA (zN (g := gb368) (o := .cells #[.int .i64 a1_0, .int .i64 a1_1, .int .i64 a1_2, .string a1_3, .slice A1_4 l1_4.length c1_4, .slice A1_5 l1_5.length c1_5] 34 (0, 0)) (by (with_reducible repeat (first | refine zB ?_ _ | refine zD ?_ | refine zC ?_ _)); exact BK368.out) hb); replace HB := zA (zP apX hb); (try clear hb); (try clear hb2); (try clear hk); (try clear hi); obtain ⟨hcz39_0, hcz39_1, hcz39_2, hcz39_3, hcz39_4, hcz39_5, hfz39_0, hfz39_1, hfz39_2, hfz39_3, hfz39_4, hfz39_5⟩ := zb6 BK367.out; obtain ⟨hcz40_0, hcz40_1, hcz40_2, hcz40_3, hcz40_4, hcz40_5, hfz40_0, hfz40_1, hfz40_2, hfz40_3, hfz40_4, hfz40_5⟩ := zb6 BK368.out) | ((with_reducible refine zT (f := 20) rfl ?_); refine goesL_ (some 25) rfl rfl Tryd.func20 (by kernel_rfl) rfl #[.slice A0_4 l0_4.length c0_4, .slice A1_4 l1_4.length c1_4] rfl apE ?_; (with_reducible refine (ih_laws_eqValueS k (by omega) _ _ l0_4 _ _ l1_4 false _ ?side1 ?side2 ?side3 ?side4 A7.out).mono ?_); (case side1 => exact vc (Kd.C_below HR0_4.out HB.out)); (case side2 => exact HC0_4.out); (case side3 => exact vc (Kd.C_below HR1_4.out HB.out)); (case side4 => exact HC1_4.out); rintro e w41 ⟨rfl, hb⟩; refine ⟨_, rfl, ?_⟩; replace HB := zA (zP apA hb); (try clear hb); (try clear hb2); (try clear hk); (try clear hi)))
     go_ret
     exact ⟨apD, apA⟩
   ·rw [if_neg c6] at H
    have c6b0 : (a0_3.toList == a1_3.toList) = false := beq_eq_false_iff_ne.mpr c6
    have c6b1 : (a0_3.toList != a1_3.toList) = true := bne_iff_ne.mpr c6
    obtain rfl := yG H
    go_enter Tryd.func8, Tryd.ntmps8
    go_wp2_with (first | ((with_reducible refine zS (N := 2) rfl ?_); refine zW ?hg (N := 2) ?hd (cs := #[.int .i64 a0_0, .int .i64 a0_1, .int .i64 a0_2, .string a0_3, .slice A0_4 l0_4.length c0_4, .slice A0_5 l0_5.length c0_5]) (t := 34) ?hr ?_; (case hd => rfl); (case hg => rfl); (case hr => first | (go_simp; done) | (go_simp; rfl)); intro gb367 hg w42 hbox hb; have BK367 := zA (hbox); have GW367 := zA ((by rw [hg]; exact (zQ apA) : w.heap.size ≤ gb367)); have GE367 := zA ((by rw [hg]; exact (zQ apA) : w.heap.size ≤ gb367)); replace HB := zA (zP apA hb); clear hb hbox hg) | ((with_reducible refine zS (N := 3) rfl ?_); refine zW ?hg (N := 3) ?hd (cs := #[.int .i64 a1_0, .int .i64 a1_1, .int .i64 a1_2, .string a1_3, .slice A1_4 l1_4.length c1_4, .slice A1_5 l1_5.length c1_5]) (t := 34) ?hr ?_; (case hd => rfl); (case hg => rfl); (case hr => first | (go_simp; done) | (go_simp; rfl)); intro gb368 hg w43 hbox hb; have BK368 := zA (hbox); have GW368 := zA ((by rw [hg]; exact (zQ apN) : w.heap.size ≤ gb368)); have GE368 := zA ((by rw [hg]; exact (zQ apN) : w.heap.size ≤ gb368)); replace HB := zA (zP apN hb); have NB367_368 := zA ((by rw [hg]; exact Nat.ne_of_lt (blk_lt (g := gb367) (o := .cells #[.int .i64 a0_0, .int .i64 a0_1, .int .i64 a0_2, .string a0_3, .slice A0_4 l0_4.length c0_4, .slice A0_5 l0_5.length c0_5] 34 (0, 0)) apJ) : gb367 ≠ gb368)); have NB368_367 := zA ((by rw [hg]; exact Nat.ne_of_gt (blk_lt (g := gb367) (o := .cells #[.int .i64 a0_0, .int .i64 a0_1, .int .i64 a0_2, .string a0_3, .slice A0_4 l0_4.length c0_4, .slice A0_5 l0_5.length c0_5] 34 (0, 0)) apJ) : gb368 ≠ gb367)); replace BK367 := zA (zN (g := gb367) (o := .cells #[.int .i64 a0_0, .int .i64 a0_1, .int .i64 a0_2, .string a0_3, .slice A0_4 l0_4.length c0_4, .slice A0_5 l0_5.length c0_5] 34 (0, 0)) apJ hb); clear hb hbox hg; have hnb44 := NB367_368.out; have hnc44 := NB368_367.out; obtain ⟨hcz45_0, hcz45_1, hcz45_2, hcz45_3, hcz45_4, hcz45_5, hfz45_0, hfz45_1, hfz45_2, hfz45_3, hfz45_4, hfz45_5⟩ := zb6 BK367.out; obtain ⟨hcz46_0, hcz46_1, hcz46_2, hcz46_3, hcz46_4, hcz46_5, hfz46_0, hfz46_1, hfz46_2, hfz46_3, hfz46_4, hfz46_5⟩ := zb6 BK368.out) | ((with_reducible refine zT (f := 19) rfl ?_); refine goesL_ (some 14) rfl rfl Tryd.func19 (by kernel_rfl) rfl #[.agg #[.int .i64 a0_1, .int .i64 a0_2], .agg #[.int .i64 a1_1, .int .i64 a1_2]] rfl apE ?_; (with_reducible refine (laws_eqDec.calls a0_1 a0_2 a1_1 a1_2 true _ A4.out).mono ?_); rintro e w47 ⟨rfl, hb⟩; refine ⟨_, rfl, ?_⟩; replace BK367 := zA (zN (g := gb367) (o := .cells #[.int .i64 a0_0, .int .i64 a0_1, .int .i64 a0_2, .string a0_3, .slice A0_4 l0_4.length c0_4, .slice A0_5 l0_5.length c0_5] 34 (0, 0)) apJ hb); replace BK368 := zA (zN (g := gb368) (o := .cells #[.int .i64 a1_0, .int .i64 a1_1, .int .i64 a1_2, .string a1_3, .slice A1_4 l1_4.length c1_4, .slice A1_5 l1_5.length c1_5] 34 (0, 0)) (by (with_reducible repeat (first | refine zB ?_ _ | refine zD ?_ | refine zC ?_ _)); exact BK368.out) hb); replace HB := zA (zP apX hb); (try clear hb); (try clear hb2); (try clear hk); (try clear hi); obtain ⟨hcz48_0, hcz48_1, hcz48_2, hcz48_3, hcz48_4, hcz48_5, hfz48_0, hfz48_1, hfz48_2, hfz48_3, hfz48_4, hfz48_5⟩ := zb6 BK367.out; obtain ⟨hcz49_0, hcz49_1, hcz49_2, hcz49_3, hcz49_4, hcz49_5, hfz49_0, hfz49_1, hfz49_2, hfz49_3, hfz49_4, hfz49_5⟩ := zb6 BK368.out))
    go_ret
    exact ⟨apD, apX⟩
  ·replace c5 := Bool.eq_false_iff.mpr c5
   subst c5
   have H1 := H; rw [if_neg (show ¬ (false = true) by decide)] at H1
   clear H
   have H := H1
   clear H1
   obtain rfl := yG H
   go_enter Tryd.func8, Tryd.ntmps8
   go_wp2_with (first | ((with_reducible refine zS (N := 2) rfl ?_); refine zW ?hg (N := 2) ?hd (cs := #[.int .i64 a0_0, .int .i64 a0_1, .int .i64 a0_2, .string a0_3, .slice A0_4 l0_4.length c0_4, .slice A0_5 l0_5.length c0_5]) (t := 34) ?hr ?_; (case hd => rfl); (case hg => rfl); (case hr => first | (go_simp; done) | (go_simp; rfl)); intro gb367 hg w50 hbox hb; have BK367 := zA (hbox); have GW367 := zA ((by rw [hg]; exact (zQ apA) : w.heap.size ≤ gb367)); have GE367 := zA ((by rw [hg]; exact (zQ apA) : w.heap.size ≤ gb367)); replace HB := zA (zP apA hb); clear hb hbox hg) | ((with_reducible refine zS (N := 3) rfl ?_); refine zW ?hg (N := 3) ?hd (cs := #[.int .i64 a1_0, .int .i64 a1_1, .int .i64 a1_2, .string a1_3, .slice A1_4 l1_4.length c1_4, .slice A1_5 l1_5.length c1_5]) (t := 34) ?hr ?_; (case hd => rfl); (case hg => rfl); (case hr => first | (go_simp; done) | (go_simp; rfl)); intro gb368 hg w51 hbox hb; have BK368 := zA (hbox); have GW368 := zA ((by rw [hg]; exact (zQ apN) : w.heap.size ≤ gb368)); have GE368 := zA ((by rw [hg]; exact (zQ apN) : w.heap.size ≤ gb368)); replace HB := zA (zP apN hb); have NB367_368 := zA ((by rw [hg]; exact Nat.ne_of_lt (blk_lt (g := gb367) (o := .cells #[.int .i64 a0_0, .int .i64 a0_1, .int .i64 a0_2, .string a0_3, .slice A0_4 l0_4.length c0_4, .slice A0_5 l0_5.length c0_5] 34 (0, 0)) apJ) : gb367 ≠ gb368)); have NB368_367 := zA ((by rw [hg]; exact Nat.ne_of_gt (blk_lt (g := gb367) (o := .cells #[.int .i64 a0_0, .int .i64 a0_1, .int .i64 a0_2, .string a0_3, .slice A0_4 l0_4.length c0_4, .slice A0_5 l0_5.length c0_5] 34 (0, 0)) apJ) : gb368 ≠ gb367)); replace BK367 := zA (zN (g := gb367) (o := .cells #[.int .i64 a0_0, .int .i64 a0_1, .int .i64 a0_2, .string a0_3, .slice A0_4 l0_4.length c0_4, .slice A0_5 l0_5.length c0_5] 34 (0, 0)) apJ hb); clear hb hbox hg; have hnb52 := NB367_368.out; have hnc52 := NB368_367.out; obtain ⟨hcz53_0, hcz53_1, hcz53_2, hcz53_3, hcz53_4, hcz53_5, hfz53_0, hfz53_1, hfz53_2, hfz53_3, hfz53_4, hfz53_5⟩ := zb6 BK367.out; obtain ⟨hcz54_0, hcz54_1, hcz54_2, hcz54_3, hcz54_4, hcz54_5, hfz54_0, hfz54_1, hfz54_2, hfz54_3, hfz54_4, hfz54_5⟩ := zb6 BK368.out) | ((with_reducible refine zT (f := 19) rfl ?_); refine goesL_ (some 14) rfl rfl Tryd.func19 (by kernel_rfl) rfl #[.agg #[.int .i64 a0_1, .int .i64 a0_2], .agg #[.int .i64 a1_1, .int .i64 a1_2]] rfl apE ?_; (with_reducible refine (laws_eqDec.calls a0_1 a0_2 a1_1 a1_2 false _ A4.out).mono ?_); rintro e w55 ⟨rfl, hb⟩; refine ⟨_, rfl, ?_⟩; replace HB := zA (zP apA hb); (try clear hb); (try clear hb2); (try clear hk); (try clear hi)))
   go_ret
   exact ⟨apD, apA⟩
 ·rw [if_neg c3] at H
  have c3b0 : (a0_0 == a1_0) = false := beq_eq_false_iff_ne.mpr c3
  have c3b1 : (a0_0 != a1_0) = true := bne_iff_ne.mpr c3
  obtain rfl := yG H
  go_enter Tryd.func8, Tryd.ntmps8
  go_wp2_with (first | ((with_reducible refine zS (N := 2) rfl ?_); refine zW ?hg (N := 2) ?hd (cs := #[.int .i64 a0_0, .int .i64 a0_1, .int .i64 a0_2, .string a0_3, .slice A0_4 l0_4.length c0_4, .slice A0_5 l0_5.length c0_5]) (t := 34) ?hr ?_; (case hd => rfl); (case hg => rfl); (case hr => first | (go_simp; done) | (go_simp; rfl)); intro gb367 hg w56 hbox hb; have BK367 := zA (hbox); have GW367 := zA ((by rw [hg]; exact (zQ apA) : w.heap.size ≤ gb367)); have GE367 := zA ((by rw [hg]; exact (zQ apA) : w.heap.size ≤ gb367)); replace HB := zA (zP apA hb); clear hb hbox hg) | ((with_reducible refine zS (N := 3) rfl ?_); refine zW ?hg (N := 3) ?hd (cs := #[.int .i64 a1_0, .int .i64 a1_1, .int .i64 a1_2, .string a1_3, .slice A1_4 l1_4.length c1_4, .slice A1_5 l1_5.length c1_5]) (t := 34) ?hr ?_; (case hd => rfl); (case hg => rfl); (case hr => first | (go_simp; done) | (go_simp; rfl)); intro gb368 hg w57 hbox hb; have BK368 := zA (hbox); have GW368 := zA ((by rw [hg]; exact (zQ apN) : w.heap.size ≤ gb368)); have GE368 := zA ((by rw [hg]; exact (zQ apN) : w.heap.size ≤ gb368)); replace HB := zA (zP apN hb); have NB367_368 := zA ((by rw [hg]; exact Nat.ne_of_lt (blk_lt (g := gb367) (o := .cells #[.int .i64 a0_0, .int .i64 a0_1, .int .i64 a0_2, .string a0_3, .slice A0_4 l0_4.length c0_4, .slice A0_5 l0_5.length c0_5] 34 (0, 0)) apJ) : gb367 ≠ gb368)); have NB368_367 := zA ((by rw [hg]; exact Nat.ne_of_gt (blk_lt (g := gb367) (o := .cells #[.int .i64 a0_0, .int .i64 a0_1, .int .i64 a0_2, .string a0_3, .slice A0_4 l0_4.length c0_4, .slice A0_5 l0_5.length c0_5] 34 (0, 0)) apJ) : gb368 ≠ gb367)); replace BK367 := zA (zN (g := gb367) (o := .cells #[.int .i64 a0_0, .int .i64 a0_1, .int .i64 a0_2, .string a0_3, .slice A0_4 l0_4.length c0_4, .slice A0_5 l0_5.length c0_5] 34 (0, 0)) apJ hb); clear hb hbox hg; have hnb58 := NB367_368.out; have hnc58 := NB368_367.out; obtain ⟨hcz59_0, hcz59_1, hcz59_2, hcz59_3, hcz59_4, hcz59_5, hfz59_0, hfz59_1, hfz59_2, hfz59_3, hfz59_4, hfz59_5⟩ := zb6 BK367.out; obtain ⟨hcz60_0, hcz60_1, hcz60_2, hcz60_3, hcz60_4, hcz60_5, hfz60_0, hfz60_1, hfz60_2, hfz60_3, hfz60_4, hfz60_5⟩ := zb6 BK368.out))
  go_ret
  exact ⟨apD, apX⟩

set_option maxHeartbeats 8000000 in
set_option maxRecDepth 100000 in
theorem laws_eqValueS.step (k : Nat) (ih_laws_eqValue : ∀ m, m < k → laws_eqValue.Spec m) (ih_laws_eqValueS : ∀ m, m < k → laws_eqValueS.Spec m) : laws_eqValueS.Spec k := by
 intro A0 c0 l0 A1 c1 l1 r w hr0 hc0 hr1 hc1 h
 cases k with
 | zero => exact absurd h (by simp [laws_eqValueS.f])
 | succ k =>
 simp only [laws_eqValueS.f] at h
 have hu34 := Tryd.underlying34
 have HR0 := zA hr0
 have HC0 := zA hc0
 clear hr0 hc0
 have HR1 := zA hr1
 have HC1 := zA hc1
 clear hr1 hc1
 have HB := zA (yH w.heap.size w)
 have H : (if (l0.length : Int) = (l1.length : Int) then (laws_eqValueS.l0 k l0 l1 0) else (some false)) = some r := h
 clear h
 by_cases c3 : (l0.length : Int) = (l1.length : Int)
 ·rw [if_pos c3] at H
  have c3b0 : ((l0.length : Int) == (l1.length : Int)) = true := beq_iff_eq.mpr c3
  have c3b1 : ((l0.length : Int) != (l1.length : Int)) = false := bne_eq_false_iff_eq.mpr c3
  have c3b2 : (l0.length == l1.length) = true := by first | simpa using c3 | (simp at c3 ⊢; omega)
  clear c3
  have H' := zA H
  clear H
  go_enter Tryd.func20, Tryd.ntmps20
  go_wp2
  go_loopg [5] k (fun kq v5 w' => ∃ (x5_1 : Int), v5 = .int .i64 x5_1 ∧ Aside0 (laws_eqValueS.l0 kq l0 l1 x5_1 = some r) ∧ Aside0 (kq ≤ k) ∧ Aside0 (Below w.heap.size w w'))
  case atStart => exact ⟨(0), apC, H', ⟨yJ _⟩, ⟨apA⟩⟩
  case round =>
   clear H'
   try clear c1 c2 p2 c3 c3b0 c3b1 c3b2
   obtain ⟨x5_1, rfl, HA, HK1, HB⟩ := hrel
   cases gk with
   | zero => exact absurd HA.out (by simp [laws_eqValueS.l0])
   | succ k1 =>
    have H := HA.out
    clear HA
    simp only [laws_eqValueS.l0] at H
    by_cases c4 : x5_1 < (l0.length : Int)
    ·rw [if_pos c4] at H
     have c4b0 : decide (x5_1 < (l0.length : Int)) = true := yE c4
     clear c4
     by_cases c5 : 0 ≤ x5_1
     ·rw [if_pos c5] at H
      have c5b0 : decide (0 ≤ x5_1) = true := yE c5
      clear c5
      by_cases c6 : x5_1 < (l1.length : Int)
      ·rw [if_pos c6] at H
       have c6b0 : decide (x5_1 < (l1.length : Int)) = true := yE c6
       clear c6
       replace H := Option.bind_eq_some_iff.mp H
       obtain ⟨t374, A70, H⟩ := H
       have A7 := zA A70
       clear A70
       by_cases c8 : t374 = true
       ·subst c8
        have H1 := H; rw [if_pos rfl] at H1
        clear H
        have H := H1
        clear H1
        have H' := zA H
        clear H
        try go_wp2
        replace HB := zA (zF HB.out)
        have p372 : 0 ≤ (x5_1 : Int) := yF apB
        have q372 : x5_1 < (l0.length : Int) := yF apB
        obtain ⟨ad372, A372_4, c372_4, A372_5, c372_5, e372, hx372_0, hx372_1, hx372_2, hx372_3, hx372_4, hx372_5, hl372_4, hi372_4, hl372_5, hi372_5⟩ := at_T34 HR0.out x5_1 p372 q372
        have hw372_5 := hx372_5
        have hw372_4 := hx372_4
        have hw372_3 := hx372_3
        have hw372_2 := hx372_2
        have hw372_1 := hx372_1
        have hw372_0 := hx372_0
        cases e372
        replace hx372_0 := (HB.out.cell (zR w _ hx372_0)).trans hx372_0
        replace hx372_1 := (HB.out.cell (zR w _ hx372_1)).trans hx372_1
        replace hx372_2 := (HB.out.cell (zR w _ hx372_2)).trans hx372_2
        replace hx372_3 := (HB.out.cell (zR w _ hx372_3)).trans hx372_3
        replace hx372_4 := (HB.out.cell (zR w _ hx372_4)).trans hx372_4
        replace hx372_5 := (HB.out.cell (zR w _ hx372_5)).trans hx372_5
        have HR372_4 := zA hi372_4
        have HC372_4 := zA hl372_4
        clear hi372_4 hl372_4
        have HR372_5 := zA hi372_5
        have HC372_5 := zA hl372_5
        clear hi372_5 hl372_5
        replace p372 := eq_true p372
        replace q372 := eq_true q372
        have p373 : 0 ≤ (x5_1 : Int) := yF apB
        have q373 : x5_1 < (l1.length : Int) := yF apB
        obtain ⟨ad373, A373_4, c373_4, A373_5, c373_5, e373, hx373_0, hx373_1, hx373_2, hx373_3, hx373_4, hx373_5, hl373_4, hi373_4, hl373_5, hi373_5⟩ := at_T34 HR1.out x5_1 p373 q373
        have hw373_5 := hx373_5
        have hw373_4 := hx373_4
        have hw373_3 := hx373_3
        have hw373_2 := hx373_2
        have hw373_1 := hx373_1
        have hw373_0 := hx373_0
        cases e373
        replace hx373_0 := (HB.out.cell (zR w _ hx373_0)).trans hx373_0
        replace hx373_1 := (HB.out.cell (zR w _ hx373_1)).trans hx373_1
        replace hx373_2 := (HB.out.cell (zR w _ hx373_2)).trans hx373_2
        replace hx373_3 := (HB.out.cell (zR w _ hx373_3)).trans hx373_3
        replace hx373_4 := (HB.out.cell (zR w _ hx373_4)).trans hx373_4
        replace hx373_5 := (HB.out.cell (zR w _ hx373_5)).trans hx373_5
        have HR373_4 := zA hi373_4
        have HC373_4 := zA hl373_4
        clear hi373_4 hl373_4
        have HR373_5 := zA hi373_5
        have HC373_5 := zA hl373_5
        clear hi373_5 hl373_5
        replace p373 := eq_true p373
        replace q373 := eq_true q373
        refine start_ (n := 10) (S := fun w' => w'.cell? (ad372.add ((x5_1).toNat * 6)) = some (.int .i64 ((rd_T34 l0 x5_1).f0)) ∧ w'.cell? ⟨(ad372.add ((x5_1).toNat * 6)).block, (ad372.add ((x5_1).toNat * 6)).off + 1, none⟩ = some (.int .i64 ((rd_T34 l0 x5_1).f1.f0)) ∧ w'.cell? ⟨(ad372.add ((x5_1).toNat * 6)).block, (ad372.add ((x5_1).toNat * 6)).off + 2, none⟩ = some (.int .i64 ((rd_T34 l0 x5_1).f1.f1)) ∧ w'.cell? ⟨(ad372.add ((x5_1).toNat * 6)).block, (ad372.add ((x5_1).toNat * 6)).off + 3, none⟩ = some (.string ((rd_T34 l0 x5_1).f2)) ∧ w'.cell? ⟨(ad372.add ((x5_1).toNat * 6)).block, (ad372.add ((x5_1).toNat * 6)).off + 4, none⟩ = some (.slice A372_4 ((rd_T34 l0 x5_1).f3).length c372_4) ∧ w'.cell? ⟨(ad372.add ((x5_1).toNat * 6)).block, (ad372.add ((x5_1).toNat * 6)).off + 5, none⟩ = some (.slice A372_5 ((rd_T34 l0 x5_1).f4).length c372_5) ∧ w'.cell? (ad373.add ((x5_1).toNat * 6)) = some (.int .i64 ((rd_T34 l1 x5_1).f0)) ∧ w'.cell? ⟨(ad373.add ((x5_1).toNat * 6)).block, (ad373.add ((x5_1).toNat * 6)).off + 1, none⟩ = some (.int .i64 ((rd_T34 l1 x5_1).f1.f0)) ∧ w'.cell? ⟨(ad373.add ((x5_1).toNat * 6)).block, (ad373.add ((x5_1).toNat * 6)).off + 2, none⟩ = some (.int .i64 ((rd_T34 l1 x5_1).f1.f1)) ∧ w'.cell? ⟨(ad373.add ((x5_1).toNat * 6)).block, (ad373.add ((x5_1).toNat * 6)).off + 3, none⟩ = some (.string ((rd_T34 l1 x5_1).f2)) ∧ w'.cell? ⟨(ad373.add ((x5_1).toNat * 6)).block, (ad373.add ((x5_1).toNat * 6)).off + 4, none⟩ = some (.slice A373_4 ((rd_T34 l1 x5_1).f3).length c373_4) ∧ w'.cell? ⟨(ad373.add ((x5_1).toNat * 6)).block, (ad373.add ((x5_1).toNat * 6)).off + 5, none⟩ = some (.slice A373_5 ((rd_T34 l1 x5_1).f4).length c373_5)) (ds := []) #[false, false, false, false, false, false, false, false, false, false] (by kernel_rfl) rfl rfl ⟨((HB.out.cell (zR w _ hw372_0)).trans hw372_0), ((HB.out.cell (zR w _ hw372_1)).trans hw372_1), ((HB.out.cell (zR w _ hw372_2)).trans hw372_2), ((HB.out.cell (zR w _ hw372_3)).trans hw372_3), ((HB.out.cell (zR w _ hw372_4)).trans hw372_4), ((HB.out.cell (zR w _ hw372_5)).trans hw372_5), ((HB.out.cell (zR w _ hw373_0)).trans hw373_0), ((HB.out.cell (zR w _ hw373_1)).trans hw373_1), ((HB.out.cell (zR w _ hw373_2)).trans hw373_2), ((HB.out.cell (zR w _ hw373_3)).trans hw373_3), ((HB.out.cell (zR w _ hw373_4)).trans hw373_4), ((HB.out.cell (zR w _ hw373_5)).trans hw373_5)⟩ (fun hHeld => ?_); refine with_tabW laws_eqValueS.tab6 laws_eqValueS.bits6 (fun HT_ HW_ => ?_)
        generalize wr.drew = w9 at HB HR372_4 HR372_5 HR373_4 HR373_5 hx372_0 hx372_1 hx372_2 hx372_3 hx372_4 hx372_5 hx373_0 hx373_1 hx373_2 hx373_3 hx373_4 hx373_5 hHeld ⊢
        refine pure_ (i := 0) (N := some 17) (v := ?_) (a' := ?_) #[true, false, false, false, false, false, false, false, false, false] rfl rfl (any_of HT_.out (by kernel_rfl)) (fun _ _ _ h => h) (Or.inl ⟨by rfl, ?_⟩) ?_ ?_
        rotate_left
        ·intro w'
         go_simp
         with_reducible rfl
        rotate_left
        ·simp only [Act.put, zK, zL, zM, i64_w, i32_w]
         rfl
        refine pure_ (i := 1) (N := some 18) (v := ?_) (a' := ?_) #[true, true, false, false, false, false, false, false, false, false] rfl rfl (any_of HT_.out (by kernel_rfl)) (fun _ _ _ h => h) (Or.inl ⟨by rfl, ?_⟩) ?_ ?_
        rotate_left
        ·intro w'
         go_simp
         with_reducible rfl
        rotate_left
        ·simp only [Act.put, zK, zL, zM, i64_w, i32_w]
         rfl
        refine pure_ (i := 2) (N := some 19) (v := ?_) (a' := ?_) #[true, true, true, false, false, false, false, false, false, false] rfl rfl (any_of HT_.out (by kernel_rfl)) (fun _ _ _ h => h) (Or.inl ⟨by rfl, ?_⟩) ?_ ?_
        rotate_left
        ·intro w'
         go_simp
         with_reducible rfl
        rotate_left
        ·simp only [Act.put, zK, zL, zM, i64_w, i32_w]
         rfl
        refine pure_ (i := 4) (N := some 21) (v := ?_) (a' := ?_) #[true, true, true, false, true, false, false, false, false, false] rfl rfl (any_of HT_.out (by kernel_rfl)) (fun _ _ _ h => h) (Or.inl ⟨by rfl, ?_⟩) ?_ ?_
        rotate_left
        ·intro w'
         go_simp
         with_reducible rfl
        rotate_left
        ·simp only [Act.put, zK, zL, zM, i64_w, i32_w]
         rfl
        refine pure_ (i := 5) (N := some 22) (v := ?_) (a' := ?_) #[true, true, true, false, true, true, false, false, false, false] rfl rfl (any_of HT_.out (by kernel_rfl)) (fun _ _ _ h => h) (Or.inl ⟨by rfl, ?_⟩) ?_ ?_
        rotate_left
        ·intro w'
         go_simp
         with_reducible rfl
        rotate_left
        ·simp only [Act.put, zK, zL, zM, i64_w, i32_w]
         rfl
        refine pure_ (i := 6) (N := some 23) (v := ?_) (a' := ?_) #[true, true, true, false, true, true, true, false, false, false] rfl rfl (any_of HT_.out (by kernel_rfl)) (fun _ _ _ h => h) (Or.inl ⟨by rfl, ?_⟩) ?_ ?_
        rotate_left
        ·intro w'
         go_simp
         with_reducible rfl
        rotate_left
        ·simp only [Act.put, zK, zL, zM, i64_w, i32_w]
         rfl
        refine take_ (i := 3) (N := some 20) (v := ?_) (a' := ?_) #[true, true, true, true, true, true, true, false, false, false] rfl rfl (take_ofW HT_.out HW_.out (by kernel_rfl)) (fun _ _ _ h => h) (Or.inl ⟨by rfl, ?_⟩) hHeld ?_ ?_
        rotate_left
        ·rintro w' ⟨s0, s1, s2, s3, s4, s5, s6, s7, s8, s9, s10, s11⟩
         go_simp
         with_reducible rfl
        rotate_left
        ·simp only [Act.put, zK, zL, zM, i64_w, i32_w]
         rfl
        refine take_ (i := 7) (N := some 24) (v := ?_) (a' := ?_) #[true, true, true, true, true, true, true, true, false, false] rfl rfl (take_ofW HT_.out HW_.out (by kernel_rfl)) (fun _ _ _ h => h) (Or.inl ⟨by rfl, ?_⟩) hHeld ?_ ?_
        rotate_left
        ·rintro w' ⟨s0, s1, s2, s3, s4, s5, s6, s7, s8, s9, s10, s11⟩
         go_simp
         with_reducible rfl
        rotate_left
        ·simp only [Act.put, zK, zL, zM, i64_w, i32_w]
         rfl
        refine one_ (i := 8) (N := some 25) #[true, true, true, true, true, true, true, true, true, false] rfl rfl (one_of HT_.out (by kernel_rfl)) (by decide) (fun K hK => ?_)
        refine goes_ Tryd.func8 (by kernel_rfl) rfl #[.agg #[.int .i64 ((rd_T34 l0 x5_1).f0), .int .i64 ((rd_T34 l0 x5_1).f1.f0), .int .i64 ((rd_T34 l0 x5_1).f1.f1), .string ((rd_T34 l0 x5_1).f2), .slice A372_4 ((rd_T34 l0 x5_1).f3).length c372_4, .slice A372_5 ((rd_T34 l0 x5_1).f4).length c372_5], .agg #[.int .i64 ((rd_T34 l1 x5_1).f0), .int .i64 ((rd_T34 l1 x5_1).f1.f0), .int .i64 ((rd_T34 l1 x5_1).f1.f1), .string ((rd_T34 l1 x5_1).f2), .slice A373_4 ((rd_T34 l1 x5_1).f3).length c373_4, .slice A373_5 ((rd_T34 l1 x5_1).f4).length c373_5]] (by rfl) rfl rfl apE ?_
        with_reducible refine (ih_laws_eqValue k1 (by have := HK1.out; omega) ((rd_T34 l0 x5_1).f0) ((rd_T34 l0 x5_1).f1.f0) ((rd_T34 l0 x5_1).f1.f1) ((rd_T34 l0 x5_1).f2) _ _ ((rd_T34 l0 x5_1).f3) _ _ ((rd_T34 l0 x5_1).f4) ((rd_T34 l1 x5_1).f0) ((rd_T34 l1 x5_1).f1.f0) ((rd_T34 l1 x5_1).f1.f1) ((rd_T34 l1 x5_1).f2) _ _ ((rd_T34 l1 x5_1).f3) _ _ ((rd_T34 l1 x5_1).f4) true _ ?side1 ?side2 ?side3 ?side4 ?side5 ?side6 ?side7 ?side8 A7.out).mono ?_
        (case side1 => exact vc (Kd.C_below HR372_4.out HB.out))
        (case side2 => exact HC372_4.out)
        (case side3 => exact vc (Kd.C_below HR372_5.out HB.out))
        (case side4 => exact HC372_5.out)
        (case side5 => exact vc (Kd.C_below HR373_4.out HB.out))
        (case side6 => exact HC373_4.out)
        (case side7 => exact vc (Kd.C_below HR373_5.out HB.out))
        (case side8 => exact HC373_5.out)
        rintro e w10 ⟨rfl, hb⟩
        refine ⟨_, rfl, ?_⟩
        replace HB := zA (zP apA hb)
        (try clear hb)
        (try clear hb2)
        (try clear hk)
        (try clear hi)
        refine hK.out _ _ ⟨((HB.out.cell (zR w _ hw372_0)).trans hw372_0), ((HB.out.cell (zR w _ hw372_1)).trans hw372_1), ((HB.out.cell (zR w _ hw372_2)).trans hw372_2), ((HB.out.cell (zR w _ hw372_3)).trans hw372_3), ((HB.out.cell (zR w _ hw372_4)).trans hw372_4), ((HB.out.cell (zR w _ hw372_5)).trans hw372_5), ((HB.out.cell (zR w _ hw373_0)).trans hw373_0), ((HB.out.cell (zR w _ hw373_1)).trans hw373_1), ((HB.out.cell (zR w _ hw373_2)).trans hw373_2), ((HB.out.cell (zR w _ hw373_3)).trans hw373_3), ((HB.out.cell (zR w _ hw373_4)).trans hw373_4), ((HB.out.cell (zR w _ hw373_5)).trans hw373_5)⟩ (fun hHeld => ?_)
        clear hK K
        refine norm_ (a' := ?_) ?_ ?_
        rotate_left
        ·show Act.put _ (some 25) _ = _
         simp only [Act.put, zK, zL, zM, i64_w, i32_w]
         rfl
        refine pure_ (i := 9) (N := some 26) (v := ?_) (a' := ?_) #[true, true, true, true, true, true, true, true, true, true] rfl rfl (any_of HT_.out (by kernel_rfl)) (fun _ _ _ h => h) (Or.inl ⟨by rfl, ?_⟩) ?_ ?_
        rotate_left
        ·intro w'
         go_simp
         with_reducible rfl
        rotate_left
        ·simp only [Act.put, zK, zL, zM, i64_w, i32_w]
         rfl
        refine done_ (done_of HT_.out (by kernel_rfl)) ?_
        try go_wp2
        go_roundg k1
        case measure => have := HK1.out; omega
        case rel => exact ⟨(wrap64 (x5_1 + 1)), apC, H', ⟨by have := HK1.out; omega⟩, ⟨apA⟩⟩
       ·replace c8 := Bool.eq_false_iff.mpr c8
        subst c8
        have H1 := H; rw [if_neg (show ¬ (false = true) by decide)] at H1
        clear H
        have H := H1
        clear H1
        obtain rfl := yG H
        try go_wp2
        replace HB := zA (zF HB.out)
        have p372 : 0 ≤ (x5_1 : Int) := yF apB
        have q372 : x5_1 < (l0.length : Int) := yF apB
        obtain ⟨ad372, A372_4, c372_4, A372_5, c372_5, e372, hx372_0, hx372_1, hx372_2, hx372_3, hx372_4, hx372_5, hl372_4, hi372_4, hl372_5, hi372_5⟩ := at_T34 HR0.out x5_1 p372 q372
        have hw372_5 := hx372_5
        have hw372_4 := hx372_4
        have hw372_3 := hx372_3
        have hw372_2 := hx372_2
        have hw372_1 := hx372_1
        have hw372_0 := hx372_0
        cases e372
        replace hx372_0 := (HB.out.cell (zR w _ hx372_0)).trans hx372_0
        replace hx372_1 := (HB.out.cell (zR w _ hx372_1)).trans hx372_1
        replace hx372_2 := (HB.out.cell (zR w _ hx372_2)).trans hx372_2
        replace hx372_3 := (HB.out.cell (zR w _ hx372_3)).trans hx372_3
        replace hx372_4 := (HB.out.cell (zR w _ hx372_4)).trans hx372_4
        replace hx372_5 := (HB.out.cell (zR w _ hx372_5)).trans hx372_5
        have HR372_4 := zA hi372_4
        have HC372_4 := zA hl372_4
        clear hi372_4 hl372_4
        have HR372_5 := zA hi372_5
        have HC372_5 := zA hl372_5
        clear hi372_5 hl372_5
        replace p372 := eq_true p372
        replace q372 := eq_true q372
        have p373 : 0 ≤ (x5_1 : Int) := yF apB
        have q373 : x5_1 < (l1.length : Int) := yF apB
        obtain ⟨ad373, A373_4, c373_4, A373_5, c373_5, e373, hx373_0, hx373_1, hx373_2, hx373_3, hx373_4, hx373_5, hl373_4, hi373_4, hl373_5, hi373_5⟩ := at_T34 HR1.out x5_1 p373 q373
        have hw373_5 := hx373_5
        have hw373_4 := hx373_4
        have hw373_3 := hx373_3
        have hw373_2 := hx373_2
        have hw373_1 := hx373_1
        have hw373_0 := hx373_0
        cases e373
        replace hx373_0 := (HB.out.cell (zR w _ hx373_0)).trans hx373_0
        replace hx373_1 := (HB.out.cell (zR w _ hx373_1)).trans hx373_1
        replace hx373_2 := (HB.out.cell (zR w _ hx373_2)).trans hx373_2
        replace hx373_3 := (HB.out.cell (zR w _ hx373_3)).trans hx373_3
        replace hx373_4 := (HB.out.cell (zR w _ hx373_4)).trans hx373_4
        replace hx373_5 := (HB.out.cell (zR w _ hx373_5)).trans hx373_5
        have HR373_4 := zA hi373_4
        have HC373_4 := zA hl373_4
        clear hi373_4 hl373_4
        have HR373_5 := zA hi373_5
        have HC373_5 := zA hl373_5
        clear hi373_5 hl373_5
        replace p373 := eq_true p373
        replace q373 := eq_true q373
        refine start_ (n := 10) (S := fun w' => w'.cell? (ad372.add ((x5_1).toNat * 6)) = some (.int .i64 ((rd_T34 l0 x5_1).f0)) ∧ w'.cell? ⟨(ad372.add ((x5_1).toNat * 6)).block, (ad372.add ((x5_1).toNat * 6)).off + 1, none⟩ = some (.int .i64 ((rd_T34 l0 x5_1).f1.f0)) ∧ w'.cell? ⟨(ad372.add ((x5_1).toNat * 6)).block, (ad372.add ((x5_1).toNat * 6)).off + 2, none⟩ = some (.int .i64 ((rd_T34 l0 x5_1).f1.f1)) ∧ w'.cell? ⟨(ad372.add ((x5_1).toNat * 6)).block, (ad372.add ((x5_1).toNat * 6)).off + 3, none⟩ = some (.string ((rd_T34 l0 x5_1).f2)) ∧ w'.cell? ⟨(ad372.add ((x5_1).toNat * 6)).block, (ad372.add ((x5_1).toNat * 6)).off + 4, none⟩ = some (.slice A372_4 ((rd_T34 l0 x5_1).f3).length c372_4) ∧ w'.cell? ⟨(ad372.add ((x5_1).toNat * 6)).block, (ad372.add ((x5_1).toNat * 6)).off + 5, none⟩ = some (.slice A372_5 ((rd_T34 l0 x5_1).f4).length c372_5) ∧ w'.cell? (ad373.add ((x5_1).toNat * 6)) = some (.int .i64 ((rd_T34 l1 x5_1).f0)) ∧ w'.cell? ⟨(ad373.add ((x5_1).toNat * 6)).block, (ad373.add ((x5_1).toNat * 6)).off + 1, none⟩ = some (.int .i64 ((rd_T34 l1 x5_1).f1.f0)) ∧ w'.cell? ⟨(ad373.add ((x5_1).toNat * 6)).block, (ad373.add ((x5_1).toNat * 6)).off + 2, none⟩ = some (.int .i64 ((rd_T34 l1 x5_1).f1.f1)) ∧ w'.cell? ⟨(ad373.add ((x5_1).toNat * 6)).block, (ad373.add ((x5_1).toNat * 6)).off + 3, none⟩ = some (.string ((rd_T34 l1 x5_1).f2)) ∧ w'.cell? ⟨(ad373.add ((x5_1).toNat * 6)).block, (ad373.add ((x5_1).toNat * 6)).off + 4, none⟩ = some (.slice A373_4 ((rd_T34 l1 x5_1).f3).length c373_4) ∧ w'.cell? ⟨(ad373.add ((x5_1).toNat * 6)).block, (ad373.add ((x5_1).toNat * 6)).off + 5, none⟩ = some (.slice A373_5 ((rd_T34 l1 x5_1).f4).length c373_5)) (ds := []) #[false, false, false, false, false, false, false, false, false, false] (by kernel_rfl) rfl rfl ⟨((HB.out.cell (zR w _ hw372_0)).trans hw372_0), ((HB.out.cell (zR w _ hw372_1)).trans hw372_1), ((HB.out.cell (zR w _ hw372_2)).trans hw372_2), ((HB.out.cell (zR w _ hw372_3)).trans hw372_3), ((HB.out.cell (zR w _ hw372_4)).trans hw372_4), ((HB.out.cell (zR w _ hw372_5)).trans hw372_5), ((HB.out.cell (zR w _ hw373_0)).trans hw373_0), ((HB.out.cell (zR w _ hw373_1)).trans hw373_1), ((HB.out.cell (zR w _ hw373_2)).trans hw373_2), ((HB.out.cell (zR w _ hw373_3)).trans hw373_3), ((HB.out.cell (zR w _ hw373_4)).trans hw373_4), ((HB.out.cell (zR w _ hw373_5)).trans hw373_5)⟩ (fun hHeld => ?_); refine with_tabW laws_eqValueS.tab6 laws_eqValueS.bits6 (fun HT_ HW_ => ?_)
        generalize wr.drew = w11 at HB HR372_4 HR372_5 HR373_4 HR373_5 hx372_0 hx372_1 hx372_2 hx372_3 hx372_4 hx372_5 hx373_0 hx373_1 hx373_2 hx373_3 hx373_4 hx373_5 hHeld ⊢
        refine pure_ (i := 0) (N := some 17) (v := ?_) (a' := ?_) #[true, false, false, false, false, false, false, false, false, false] rfl rfl (any_of HT_.out (by kernel_rfl)) (fun _ _ _ h => h) (Or.inl ⟨by rfl, ?_⟩) ?_ ?_
        rotate_left
        ·intro w'
         go_simp
         with_reducible rfl
        rotate_left
        ·simp only [Act.put, zK, zL, zM, i64_w, i32_w]
         rfl
        refine pure_ (i := 1) (N := some 18) (v := ?_) (a' := ?_) #[true, true, false, false, false, false, false, false, false, false] rfl rfl (any_of HT_.out (by kernel_rfl)) (fun _ _ _ h => h) (Or.inl ⟨by rfl, ?_⟩) ?_ ?_
        rotate_left
        ·intro w'
         go_simp
         with_reducible rfl
        rotate_left
        ·simp only [Act.put, zK, zL, zM, i64_w, i32_w]
         rfl
        refine pure_ (i := 2) (N := some 19) (v := ?_) (a' := ?_) #[true, true, true, false, false, false, false, false, false, false] rfl rfl (any_of HT_.out (by kernel_rfl)) (fun _ _ _ h => h) (Or.inl ⟨by rfl, ?_⟩) ?_ ?_
        rotate_left
        ·intro w'
         go_simp
         with_reducible rfl
        rotate_left
        ·simp only [Act.put, zK, zL, zM, i64_w, i32_w]
         rfl
        refine pure_ (i := 4) (N := some 21) (v := ?_) (a' := ?_) #[true, true, true, false, true, false, false, false, false, false] rfl rfl (any_of HT_.out (by kernel_rfl)) (fun _ _ _ h => h) (Or.inl ⟨by rfl, ?_⟩) ?_ ?_
        rotate_left
        ·intro w'
         go_simp
         with_reducible rfl
        rotate_left
        ·simp only [Act.put, zK, zL, zM, i64_w, i32_w]
         rfl
        refine pure_ (i := 5) (N := some 22) (v := ?_) (a' := ?_) #[true, true, true, false, true, true, false, false, false, false] rfl rfl (any_of HT_.out (by kernel_rfl)) (fun _ _ _ h => h) (Or.inl ⟨by rfl, ?_⟩) ?_ ?_
        rotate_left
        ·intro w'
         go_simp
         with_reducible rfl
        rotate_left
        ·simp only [Act.put, zK, zL, zM, i64_w, i32_w]
         rfl
        refine pure_ (i := 6) (N := some 23) (v := ?_) (a' := ?_) #[true, true, true, false, true, true, true, false, false, false] rfl rfl (any_of HT_.out (by kernel_rfl)) (fun _ _ _ h => h) (Or.inl ⟨by rfl, ?_⟩) ?_ ?_
        rotate_left
        ·intro w'
         go_simp
         with_reducible rfl
        rotate_left
        ·simp only [Act.put, zK, zL, zM, i64_w, i32_w]
         rfl
        refine take_ (i := 3) (N := some 20) (v := ?_) (a' := ?_) #[true, true, true, true, true, true, true, false, false, false] rfl rfl (take_ofW HT_.out HW_.out (by kernel_rfl)) (fun _ _ _ h => h) (Or.inl ⟨by rfl, ?_⟩) hHeld ?_ ?_
        rotate_left
        ·rintro w' ⟨s0, s1, s2, s3, s4, s5, s6, s7, s8, s9, s10, s11⟩
         go_simp
         with_reducible rfl
        rotate_left
        ·simp only [Act.put, zK, zL, zM, i64_w, i32_w]
         rfl
        refine take_ (i := 7) (N := some 24) (v := ?_) (a' := ?_) #[true, true, true, true, true, true, true, true, false, false] rfl rfl (take_ofW HT_.out HW_.out (by kernel_rfl)) (fun _ _ _ h => h) (Or.inl ⟨by rfl, ?_⟩) hHeld ?_ ?_
        rotate_left
        ·rintro w' ⟨s0, s1, s2, s3, s4, s5, s6, s7, s8, s9, s10, s11⟩
         go_simp
         with_reducible rfl
        rotate_left
        ·simp only [Act.put, zK, zL, zM, i64_w, i32_w]
         rfl
        refine one_ (i := 8) (N := some 25) #[true, true, true, true, true, true, true, true, true, false] rfl rfl (one_of HT_.out (by kernel_rfl)) (by decide) (fun K hK => ?_)
        refine goes_ Tryd.func8 (by kernel_rfl) rfl #[.agg #[.int .i64 ((rd_T34 l0 x5_1).f0), .int .i64 ((rd_T34 l0 x5_1).f1.f0), .int .i64 ((rd_T34 l0 x5_1).f1.f1), .string ((rd_T34 l0 x5_1).f2), .slice A372_4 ((rd_T34 l0 x5_1).f3).length c372_4, .slice A372_5 ((rd_T34 l0 x5_1).f4).length c372_5], .agg #[.int .i64 ((rd_T34 l1 x5_1).f0), .int .i64 ((rd_T34 l1 x5_1).f1.f0), .int .i64 ((rd_T34 l1 x5_1).f1.f1), .string ((rd_T34 l1 x5_1).f2), .slice A373_4 ((rd_T34 l1 x5_1).f3).length c373_4, .slice A373_5 ((rd_T34 l1 x5_1).f4).length c373_5]] (by rfl) rfl rfl apE ?_
        with_reducible refine (ih_laws_eqValue k1 (by have := HK1.out; omega) ((rd_T34 l0 x5_1).f0) ((rd_T34 l0 x5_1).f1.f0) ((rd_T34 l0 x5_1).f1.f1) ((rd_T34 l0 x5_1).f2) _ _ ((rd_T34 l0 x5_1).f3) _ _ ((rd_T34 l0 x5_1).f4) ((rd_T34 l1 x5_1).f0) ((rd_T34 l1 x5_1).f1.f0) ((rd_T34 l1 x5_1).f1.f1) ((rd_T34 l1 x5_1).f2) _ _ ((rd_T34 l1 x5_1).f3) _ _ ((rd_T34 l1 x5_1).f4) false _ ?side1 ?side2 ?side3 ?side4 ?side5 ?side6 ?side7 ?side8 A7.out).mono ?_
        (case side1 => exact vc (Kd.C_below HR372_4.out HB.out))
        (case side2 => exact HC372_4.out)
        (case side3 => exact vc (Kd.C_below HR372_5.out HB.out))
        (case side4 => exact HC372_5.out)
        (case side5 => exact vc (Kd.C_below HR373_4.out HB.out))
        (case side6 => exact HC373_4.out)
        (case side7 => exact vc (Kd.C_below HR373_5.out HB.out))
        (case side8 => exact HC373_5.out)
        rintro e w12 ⟨rfl, hb⟩
        refine ⟨_, rfl, ?_⟩
        replace HB := zA (zP apA hb)
        (try clear hb)
        (try clear hb2)
        (try clear hk)
        (try clear hi)
        refine hK.out _ _ ⟨((HB.out.cell (zR w _ hw372_0)).trans hw372_0), ((HB.out.cell (zR w _ hw372_1)).trans hw372_1), ((HB.out.cell (zR w _ hw372_2)).trans hw372_2), ((HB.out.cell (zR w _ hw372_3)).trans hw372_3), ((HB.out.cell (zR w _ hw372_4)).trans hw372_4), ((HB.out.cell (zR w _ hw372_5)).trans hw372_5), ((HB.out.cell (zR w _ hw373_0)).trans hw373_0), ((HB.out.cell (zR w _ hw373_1)).trans hw373_1), ((HB.out.cell (zR w _ hw373_2)).trans hw373_2), ((HB.out.cell (zR w _ hw373_3)).trans hw373_3), ((HB.out.cell (zR w _ hw373_4)).trans hw373_4), ((HB.out.cell (zR w _ hw373_5)).trans hw373_5)⟩ (fun hHeld => ?_)
        clear hK K
        refine norm_ (a' := ?_) ?_ ?_
        rotate_left
        ·show Act.put _ (some 25) _ = _
         simp only [Act.put, zK, zL, zM, i64_w, i32_w]
         rfl
        refine pure_ (i := 9) (N := some 26) (v := ?_) (a' := ?_) #[true, true, true, true, true, true, true, true, true, true] rfl rfl (any_of HT_.out (by kernel_rfl)) (fun _ _ _ h => h) (Or.inl ⟨by rfl, ?_⟩) ?_ ?_
        rotate_left
        ·intro w'
         go_simp
         with_reducible rfl
        rotate_left
        ·simp only [Act.put, zK, zL, zM, i64_w, i32_w]
         rfl
        refine done_ (done_of HT_.out (by kernel_rfl)) ?_
        try go_wp2
        go_ret
        exact ⟨apD, apA⟩
      ·rw [if_neg c6] at H
       exact absurd H (by simp)
     ·rw [if_neg c5] at H
      exact absurd H (by simp)
    ·rw [if_neg c4] at H
     have c4b0 : decide (x5_1 < (l0.length : Int)) = false := decide_eq_false c4
     clear c4
     obtain rfl := yG H
     go_wp2
     go_ret
     exact ⟨apD, apA⟩
 ·rw [if_neg c3] at H
  have c3b0 : ((l0.length : Int) == (l1.length : Int)) = false := beq_eq_false_iff_ne.mpr c3
  have c3b1 : ((l0.length : Int) != (l1.length : Int)) = true := bne_iff_ne.mpr c3
  have c3b2 : (l0.length == l1.length) = false := by first | simpa using c3 | (simp at c3 ⊢; omega)
  obtain rfl := yG H
  go_enter Tryd.func20, Tryd.ntmps20
  go_wp2
  go_ret
  exact ⟨apD, apA⟩

theorem laws_eqValue.G.all (k : Nat) : laws_eqValue.Spec k ∧ laws_eqValueS.Spec k := by
 induction k using Nat.strongRecOn with
 | _ k ih =>
  exact ⟨laws_eqValue.step k (fun m hm => (ih m hm).1) (fun m hm => (ih m hm).2), laws_eqValueS.step k (fun m hm => (ih m hm).1) (fun m hm => (ih m hm).2)⟩
theorem laws_eqValue.calls (k : Nat) : laws_eqValue.Spec k := (laws_eqValue.G.all k).1
theorem laws_eqValueS.calls (k : Nat) : laws_eqValueS.Spec k := (laws_eqValue.G.all k).2


mutual
def spec_ValueSize.l0 : Nat → Int → Int → Int → Int → Int → ByteArray → List (S34) → List ByteArray → Option (Int)
 | 0, _, _, _, _, _, _, _, _ => none
 | k + 1, x3, x4, x142000, x142001, x142002, x142003, x142004, x142005 => if x4 < (x142004.length : Int) then (if 0 ≤ x4 then ((spec_ValueSize.f k ((rd_T34 x142004 x4).f0) ((rd_T34 x142004 x4).f1.f0) ((rd_T34 x142004 x4).f1.f1) ((rd_T34 x142004 x4).f2) ((rd_T34 x142004 x4).f3) ((rd_T34 x142004 x4).f4)).bind fun t143 => (spec_ValueSize.l0 k (wrap64 (x3 + t143)) (wrap64 (x4 + 1)) x142000 x142001 x142002 x142003 x142004 x142005)) else (none)) else (some x3)
def spec_ValueSize.f : Nat → Int → Int → Int → ByteArray → List (S34) → List ByteArray → Option (Int)
 | 0, _, _, _, _, _, _ => none
 | k + 1, a0_0, a0_1, a0_2, a0_3, l0_4, l0_5 => spec_ValueSize.l0 k 1 0 a0_0 a0_1 a0_2 a0_3 l0_4 l0_5
end
theorem spec_ValueSize.mono_l : ∀ k, (∀ y0 y1 y2 y3 y4 y5, LeO (spec_ValueSize.f k y0 y1 y2 y3 y4 y5) (spec_ValueSize.f (k + 1) y0 y1 y2 y3 y4 y5)) ∧ (∀ y0 y1 y2 y3 y4 y5 y6 y7, LeO (spec_ValueSize.l0 k y0 y1 y2 y3 y4 y5 y6 y7) (spec_ValueSize.l0 (k + 1) y0 y1 y2 y3 y4 y5 y6 y7))
 | 0 => ⟨fun _ _ _ _ _ _ r h => by simp [spec_ValueSize.f] at h, fun _ _ _ _ _ _ _ _ r h => by simp [spec_ValueSize.l0] at h⟩
 | k + 1 => by
  obtain ⟨ih0, ih1⟩ := spec_ValueSize.mono_l k
  refine ⟨?_, ?_⟩
  ·intro y0 y1 y2 y3 y4 y5
   unfold spec_ValueSize.f
   repeat' first
   | (with_reducible exact ih0 _ _ _ _ _ _)
   | (with_reducible exact ih1 _ _ _ _ _ _ _ _)
   | (with_reducible exact LeO.refl _)
   | (with_reducible exact LeO.none _)
   | (with_reducible refine LeO.ite ?_ ?_)
   | (with_reducible refine LeO.bind ?_ (fun _ => ?_))
   | exact ih0 _ _ _ _ _ _
   | exact ih1 _ _ _ _ _ _ _ _
  ·intro y0 y1 y2 y3 y4 y5 y6 y7
   unfold spec_ValueSize.l0
   repeat' first
   | (with_reducible exact ih0 _ _ _ _ _ _)
   | (with_reducible exact ih1 _ _ _ _ _ _ _ _)
   | (with_reducible exact LeO.refl _)
   | (with_reducible exact LeO.none _)
   | (with_reducible refine LeO.ite ?_ ?_)
   | (with_reducible refine LeO.bind ?_ (fun _ => ?_))
   | exact ih0 _ _ _ _ _ _
   | exact ih1 _ _ _ _ _ _ _ _
theorem spec_ValueSize.mono : ∀ a0 a1 a2 a3 a4 a5 k, LeO (spec_ValueSize.f k a0 a1 a2 a3 a4 a5) (spec_ValueSize.f (k + 1) a0 a1 a2 a3 a4 a5) := by
 intro a0 a1 a2 a3 a4 a5 k
 obtain ⟨ih0, ih1⟩ := spec_ValueSize.mono_l k
 exact ih0 a0 a1 a2 a3 a4 a5
set_option maxHeartbeats 8000000 in
set_option maxRecDepth 100000 in
theorem spec_ValueSize.calls (k : Nat) : ∀ (a0_0 : Int) (a0_1 : Int) (a0_2 : Int) (a0_3 : ByteArray) (A0_4 : Option Addr) (c0_4 : Nat) (l0_4 : List (S34)) (A0_5 : Option Addr) (c0_5 : Nat) (l0_5 : List ByteArray) (r : Int) (w : World) (hr0_4 : Kd.C k34 w A0_4 l0_4.length l0_4) (hc0_4 : l0_4.length ≤ c0_4) (hr0_5 : Kd.C Kd.string w A0_5 l0_5.length l0_5) (hc0_5 : l0_5.length ≤ c0_5) (h : spec_ValueSize.f k a0_0 a0_1 a0_2 a0_3 l0_4 l0_5 = some r),
  Calls Tryd.prog 22 #[.agg #[.int .i64 a0_0, .int .i64 a0_1, .int .i64 a0_2, .string a0_3, .slice A0_4 l0_4.length c0_4, .slice A0_5 l0_5.length c0_5]] w fun e w' => e = .returned (.int .i64 r) ∧ Below w.heap.size w w' := by
 induction k using Nat.strongRecOn with
 | _ k ih =>
 intro a0_0 a0_1 a0_2 a0_3 A0_4 c0_4 l0_4 A0_5 c0_5 l0_5 r w hr0_4 hc0_4 hr0_5 hc0_5 h
 cases k with
 | zero => exact absurd h (by simp [spec_ValueSize.f])
 | succ k =>
 simp only [spec_ValueSize.f] at h
 have hu34 := Tryd.underlying34
 have HR0_4 := zA hr0_4
 have HC0_4 := zA hc0_4
 clear hr0_4 hc0_4
 have HR0_5 := zA hr0_5
 have HC0_5 := zA hc0_5
 clear hr0_5 hc0_5
 have HB := zA (yH w.heap.size w)
 have H : (spec_ValueSize.l0 k 1 0 a0_0 a0_1 a0_2 a0_3 l0_4 l0_5) = some r := h
 clear h
 have H' := zA H
 clear H
 go_enter Tryd.func22, Tryd.ntmps22
 go_wp2_with (first | ((with_reducible refine zS (N := 1) rfl ?_); refine zW ?hg (N := 1) ?hd (cs := #[.int .i64 a0_0, .int .i64 a0_1, .int .i64 a0_2, .string a0_3, .slice A0_4 l0_4.length c0_4, .slice A0_5 l0_5.length c0_5]) (t := 34) ?hr ?_; (case hd => rfl); (case hg => rfl); (case hr => first | (go_simp; done) | (go_simp; rfl)); intro gb141 hg w2 hbox hb; have BK141 := zA (hbox); have GW141 := zA ((by rw [hg]; exact (zQ apA) : w.heap.size ≤ gb141)); have GE141 := zA ((by rw [hg]; exact (zQ apA) : w.heap.size ≤ gb141)); replace HB := zA (zP apA hb); clear hb hbox hg))
 go_loopg [3, 4] k (fun kq v3 v4 w' => ∃ (x3_1 : Int) (x4_1 : Int), v3 = .int .i64 x3_1 ∧ v4 = .int .i64 x4_1 ∧ Aside0 (spec_ValueSize.l0 kq x3_1 x4_1 a0_0 a0_1 a0_2 a0_3 l0_4 l0_5 = some r) ∧ Aside0 (kq ≤ k) ∧ Aside0 (w'.heap[gb141]? = some (.cells #[.int .i64 a0_0, .int .i64 a0_1, .int .i64 a0_2, .string a0_3, (.slice A0_4 l0_4.length c0_4), (.slice A0_5 l0_5.length c0_5)] 34 (0, 0))) ∧ Aside0 (Below w.heap.size w w'))
 case atStart => exact ⟨(1), (0), apC, apC, H', ⟨yJ _⟩, ⟨by (with_reducible repeat (first | refine zB ?_ _ | refine zD ?_ | refine zC ?_ _)); exact BK141.out⟩, ⟨by repeat (first | (with_reducible first | exact HB.out | apply zG | apply zE | apply zF | refine zH ?_ GE141.out) | exact HB.out)⟩⟩
 case round =>
  clear H'
  try clear c2 p2
  obtain ⟨x3_1, x4_1, rfl, rfl, HA, HK1, BK141, HB⟩ := hrel
  cases gk with
  | zero => exact absurd HA.out (by simp [spec_ValueSize.l0])
  | succ k1 =>
   have H := HA.out
   clear HA
   simp only [spec_ValueSize.l0] at H
   by_cases c3 : x4_1 < (l0_4.length : Int)
   ·rw [if_pos c3] at H
    have c3b0 : decide (x4_1 < (l0_4.length : Int)) = true := yE c3
    clear c3
    by_cases c4 : 0 ≤ x4_1
    ·rw [if_pos c4] at H
     have c4b0 : decide (0 ≤ x4_1) = true := yE c4
     clear c4
     replace H := Option.bind_eq_some_iff.mp H
     obtain ⟨t143, A50, H⟩ := H
     have A5 := zA A50
     clear A50
     have H' := zA H
     clear H
     obtain ⟨hcz6_0, hcz6_1, hcz6_2, hcz6_3, hcz6_4, hcz6_5, hfz6_0, hfz6_1, hfz6_2, hfz6_3, hfz6_4, hfz6_5⟩ := zb6 BK141.out
     have p142 : 0 ≤ (x4_1 : Int) := yF apB
     have q142 : x4_1 < (l0_4.length : Int) := yF apB
     obtain ⟨ad142, A142_4, c142_4, A142_5, c142_5, e142, hx142_0, hx142_1, hx142_2, hx142_3, hx142_4, hx142_5, hl142_4, hi142_4, hl142_5, hi142_5⟩ := at_T34 HR0_4.out x4_1 p142 q142
     cases e142
     replace hx142_0 := (HB.out.cell (zR w _ hx142_0)).trans hx142_0
     replace hx142_1 := (HB.out.cell (zR w _ hx142_1)).trans hx142_1
     replace hx142_2 := (HB.out.cell (zR w _ hx142_2)).trans hx142_2
     replace hx142_3 := (HB.out.cell (zR w _ hx142_3)).trans hx142_3
     replace hx142_4 := (HB.out.cell (zR w _ hx142_4)).trans hx142_4
     replace hx142_5 := (HB.out.cell (zR w _ hx142_5)).trans hx142_5
     have HR142_4 := zA hi142_4
     have HC142_4 := zA hl142_4
     clear hi142_4 hl142_4
     have HR142_5 := zA hi142_5
     have HC142_5 := zA hl142_5
     clear hi142_5 hl142_5
     replace p142 := eq_true p142
     replace q142 := eq_true q142
     go_wp2_with (first | ((with_reducible refine zT (f := 22) rfl ?_); refine goesL_ (some 18) rfl rfl Tryd.func22 (by kernel_rfl) rfl #[.agg #[.int .i64 ((rd_T34 l0_4 x4_1).f0), .int .i64 ((rd_T34 l0_4 x4_1).f1.f0), .int .i64 ((rd_T34 l0_4 x4_1).f1.f1), .string ((rd_T34 l0_4 x4_1).f2), .slice A142_4 ((rd_T34 l0_4 x4_1).f3).length c142_4, .slice A142_5 ((rd_T34 l0_4 x4_1).f4).length c142_5]] rfl apE ?_; (with_reducible refine (ih k1 (by have := HK1.out; omega) ((rd_T34 l0_4 x4_1).f0) ((rd_T34 l0_4 x4_1).f1.f0) ((rd_T34 l0_4 x4_1).f1.f1) ((rd_T34 l0_4 x4_1).f2) _ _ ((rd_T34 l0_4 x4_1).f3) _ _ ((rd_T34 l0_4 x4_1).f4) t143 _ ?side1 ?side2 ?side3 ?side4 A5.out).mono ?_); (case side1 => exact vc (Kd.C_below HR142_4.out HB.out)); (case side2 => exact HC142_4.out); (case side3 => exact vc (Kd.C_below HR142_5.out HB.out)); (case side4 => exact HC142_5.out); rintro e w7 ⟨rfl, hb⟩; refine ⟨_, rfl, ?_⟩; replace BK141 := zA (zN (g := gb141) (o := .cells #[.int .i64 a0_0, .int .i64 a0_1, .int .i64 a0_2, .string a0_3, .slice (some ad142) l0_4.length c0_4, .slice A0_5 l0_5.length c0_5] 34 (0, 0)) (by (with_reducible repeat (first | refine zB ?_ _ | refine zD ?_ | refine zC ?_ _)); exact BK141.out) hb); replace HB := zA (zP (by repeat (first | (with_reducible first | exact HB.out | apply zG | apply zE | apply zF | refine zH ?_ GE141.out) | exact HB.out)) hb); (try clear hb); (try clear hb2); (try clear hk); (try clear hi)))
     go_roundg k1
     case measure => have := HK1.out; omega
     case rel => exact ⟨(wrap64 (x3_1 + t143)), (wrap64 (x4_1 + 1)), apC, apC, H', ⟨by have := HK1.out; omega⟩, ⟨by (with_reducible repeat (first | refine zB ?_ _ | refine zD ?_ | refine zC ?_ _)); exact BK141.out⟩, ⟨by repeat (first | (with_reducible first | exact HB.out | apply zG | apply zE | apply zF | refine zH ?_ GE141.out) | exact HB.out)⟩⟩
    ·rw [if_neg c4] at H
     exact absurd H (by simp)
   ·rw [if_neg c3] at H
    have c3b0 : decide (x4_1 < (l0_4.length : Int)) = false := decide_eq_false c3
    clear c3
    obtain rfl := yG H
    obtain ⟨hcz8_0, hcz8_1, hcz8_2, hcz8_3, hcz8_4, hcz8_5, hfz8_0, hfz8_1, hfz8_2, hfz8_3, hfz8_4, hfz8_5⟩ := zb6 BK141.out
    go_wp2
    go_ret
    exact ⟨apD, by repeat (first | (with_reducible first | exact HB.out | apply zG | apply zE | apply zF | refine zH ?_ GE141.out) | exact HB.out)⟩


mutual
def impl_ValueSize.l0 : Nat → Int → List (S34) → Int → Int → Option (Int)
 | 0, _, _, _, _ => none
 | k + 1, x3, x7, x8, x9 => if x9 < x8 then (if 0 ≤ x9 then (if x9 < (x7.length : Int) then ((impl_ValueSize.f k ((rd_T34 x7 x9).f0) ((rd_T34 x7 x9).f1.f0) ((rd_T34 x7 x9).f1.f1) ((rd_T34 x7 x9).f2) ((rd_T34 x7 x9).f3) ((rd_T34 x7 x9).f4)).bind fun t275 => (impl_ValueSize.l0 k (wrap64 (x3 + t275)) x7 x8 (wrap64 (x9 + 1)))) else (none)) else (none)) else (some x3)
def impl_ValueSize.f : Nat → Int → Int → Int → ByteArray → List (S34) → List ByteArray → Option (Int)
 | 0, _, _, _, _, _, _ => none
 | k + 1, a0_0, a0_1, a0_2, a0_3, l0_4, l0_5 => impl_ValueSize.l0 k 1 l0_4 (l0_4.length : Int) 0
end
theorem impl_ValueSize.mono_l : ∀ k, (∀ y0 y1 y2 y3 y4 y5, LeO (impl_ValueSize.f k y0 y1 y2 y3 y4 y5) (impl_ValueSize.f (k + 1) y0 y1 y2 y3 y4 y5)) ∧ (∀ y0 y1 y2 y3, LeO (impl_ValueSize.l0 k y0 y1 y2 y3) (impl_ValueSize.l0 (k + 1) y0 y1 y2 y3))
 | 0 => ⟨fun _ _ _ _ _ _ r h => by simp [impl_ValueSize.f] at h, fun _ _ _ _ r h => by simp [impl_ValueSize.l0] at h⟩
 | k + 1 => by
  obtain ⟨ih0, ih1⟩ := impl_ValueSize.mono_l k
  refine ⟨?_, ?_⟩
  ·intro y0 y1 y2 y3 y4 y5
   unfold impl_ValueSize.f
   repeat' first
   | (with_reducible exact ih0 _ _ _ _ _ _)
   | (with_reducible exact ih1 _ _ _ _)
   | (with_reducible exact LeO.refl _)
   | (with_reducible exact LeO.none _)
   | (with_reducible refine LeO.ite ?_ ?_)
   | (with_reducible refine LeO.bind ?_ (fun _ => ?_))
   | exact ih0 _ _ _ _ _ _
   | exact ih1 _ _ _ _
  ·intro y0 y1 y2 y3
   unfold impl_ValueSize.l0
   repeat' first
   | (with_reducible exact ih0 _ _ _ _ _ _)
   | (with_reducible exact ih1 _ _ _ _)
   | (with_reducible exact LeO.refl _)
   | (with_reducible exact LeO.none _)
   | (with_reducible refine LeO.ite ?_ ?_)
   | (with_reducible refine LeO.bind ?_ (fun _ => ?_))
   | exact ih0 _ _ _ _ _ _
   | exact ih1 _ _ _ _
theorem impl_ValueSize.mono : ∀ a0 a1 a2 a3 a4 a5 k, LeO (impl_ValueSize.f k a0 a1 a2 a3 a4 a5) (impl_ValueSize.f (k + 1) a0 a1 a2 a3 a4 a5) := by
 intro a0 a1 a2 a3 a4 a5 k
 obtain ⟨ih0, ih1⟩ := impl_ValueSize.mono_l k
 exact ih0 a0 a1 a2 a3 a4 a5
set_option maxHeartbeats 8000000 in
set_option maxRecDepth 100000 in
theorem impl_ValueSize.calls (k : Nat) : ∀ (a0_0 : Int) (a0_1 : Int) (a0_2 : Int) (a0_3 : ByteArray) (A0_4 : Option Addr) (c0_4 : Nat) (l0_4 : List (S34)) (A0_5 : Option Addr) (c0_5 : Nat) (l0_5 : List ByteArray) (r : Int) (w : World) (hr0_4 : Kd.C k34 w A0_4 l0_4.length l0_4) (hc0_4 : l0_4.length ≤ c0_4) (hr0_5 : Kd.C Kd.string w A0_5 l0_5.length l0_5) (hc0_5 : l0_5.length ≤ c0_5) (h : impl_ValueSize.f k a0_0 a0_1 a0_2 a0_3 l0_4 l0_5 = some r),
  Calls Tryd.prog 38 #[.agg #[.int .i64 a0_0, .int .i64 a0_1, .int .i64 a0_2, .string a0_3, .slice A0_4 l0_4.length c0_4, .slice A0_5 l0_5.length c0_5]] w fun e w' => e = .returned (.int .i64 r) ∧ Below w.heap.size w w' := by
 induction k using Nat.strongRecOn with
 | _ k ih =>
 intro a0_0 a0_1 a0_2 a0_3 A0_4 c0_4 l0_4 A0_5 c0_5 l0_5 r w hr0_4 hc0_4 hr0_5 hc0_5 h
 cases k with
 | zero => exact absurd h (by simp [impl_ValueSize.f])
 | succ k =>
 simp only [impl_ValueSize.f] at h
 have hu34 := Tryd.underlying34
 have HR0_4 := zA hr0_4
 have HC0_4 := zA hc0_4
 clear hr0_4 hc0_4
 have HR0_5 := zA hr0_5
 have HC0_5 := zA hc0_5
 clear hr0_5 hc0_5
 have HB := zA (yH w.heap.size w)
 have H : (impl_ValueSize.l0 k 1 l0_4 (l0_4.length : Int) 0) = some r := h
 clear h
 have H' := zA H
 clear H
 go_enter Tryd.func38, Tryd.ntmps38
 go_wp2_with (first | ((with_reducible refine zS (N := 1) rfl ?_); refine zW ?hg (N := 1) ?hd (cs := #[.int .i64 a0_0, .int .i64 a0_1, .int .i64 a0_2, .string a0_3, .slice A0_4 l0_4.length c0_4, .slice A0_5 l0_5.length c0_5]) (t := 34) ?hr ?_; (case hd => rfl); (case hg => rfl); (case hr => first | (go_simp; done) | (go_simp; rfl)); intro gb272 hg w2 hbox hb; have BK272 := zA (hbox); have GW272 := zA ((by rw [hg]; exact (zQ apA) : w.heap.size ≤ gb272)); have GE272 := zA ((by rw [hg]; exact (zQ apA) : w.heap.size ≤ gb272)); replace HB := zA (zP apA hb); clear hb hbox hg; obtain ⟨hcz3_0, hcz3_1, hcz3_2, hcz3_3, hcz3_4, hcz3_5, hfz3_0, hfz3_1, hfz3_2, hfz3_3, hfz3_4, hfz3_5⟩ := zb6 BK272.out))
 go_loopg [3, 9] k (fun kq v3 v9 w' => ∃ (x3_1 : Int) (x9_1 : Int), v3 = .int .i64 x3_1 ∧ v9 = .int .i64 x9_1 ∧ Aside0 (impl_ValueSize.l0 kq x3_1 l0_4 (l0_4.length : Int) x9_1 = some r) ∧ Aside0 (kq ≤ k) ∧ Aside0 (Below w.heap.size w w'))
 case atStart => exact ⟨(1), (0), apC, apC, H', ⟨yJ _⟩, ⟨by repeat (first | (with_reducible first | exact HB.out | apply zG | apply zE | apply zF | refine zH ?_ GE272.out) | exact HB.out)⟩⟩
 case round =>
  clear H'
  try clear p2 c3 hcz3_0 hcz3_1 hcz3_2 hcz3_3 hcz3_4 hcz3_5 hfz3_0 hfz3_1 hfz3_2 hfz3_3 hfz3_4 hfz3_5
  obtain ⟨x3_1, x9_1, rfl, rfl, HA, HK1, HB⟩ := hrel
  cases gk with
  | zero => exact absurd HA.out (by simp [impl_ValueSize.l0])
  | succ k1 =>
   have H := HA.out
   clear HA
   simp only [impl_ValueSize.l0] at H
   by_cases c4 : x9_1 < (l0_4.length : Int)
   ·rw [if_pos c4] at H
    have c4b0 : decide (x9_1 < (l0_4.length : Int)) = true := yE c4
    clear c4
    by_cases c5 : 0 ≤ x9_1
    ·rw [if_pos c5] at H
     have c5b0 : decide (0 ≤ x9_1) = true := yE c5
     clear c5
     by_cases c6 : x9_1 < (l0_4.length : Int)
     ·rw [if_pos c6] at H
      have c6b0 : decide (x9_1 < (l0_4.length : Int)) = true := yE c6
      clear c6
      replace H := Option.bind_eq_some_iff.mp H
      obtain ⟨t275, A70, H⟩ := H
      have A7 := zA A70
      clear A70
      have H' := zA H
      clear H
      have p273 : 0 ≤ (x9_1 : Int) := yF apB
      have q273 : x9_1 < (l0_4.length : Int) := yF apB
      obtain ⟨ad273, A273_4, c273_4, A273_5, c273_5, e273, hx273_0, hx273_1, hx273_2, hx273_3, hx273_4, hx273_5, hl273_4, hi273_4, hl273_5, hi273_5⟩ := at_T34 HR0_4.out x9_1 p273 q273
      cases e273
      replace hx273_0 := (HB.out.cell (zR w _ hx273_0)).trans hx273_0
      replace hx273_1 := (HB.out.cell (zR w _ hx273_1)).trans hx273_1
      replace hx273_2 := (HB.out.cell (zR w _ hx273_2)).trans hx273_2
      replace hx273_3 := (HB.out.cell (zR w _ hx273_3)).trans hx273_3
      replace hx273_4 := (HB.out.cell (zR w _ hx273_4)).trans hx273_4
      replace hx273_5 := (HB.out.cell (zR w _ hx273_5)).trans hx273_5
      have HR273_4 := zA hi273_4
      have HC273_4 := zA hl273_4
      clear hi273_4 hl273_4
      have HR273_5 := zA hi273_5
      have HC273_5 := zA hl273_5
      clear hi273_5 hl273_5
      replace p273 := eq_true p273
      replace q273 := eq_true q273
      go_wp2_with (first | ((with_reducible refine zS (N := 5) rfl ?_); refine zW ?hg (N := 5) ?hd (cs := #[.int .i64 0, .int .i64 0, .int .i64 0, .string (⟨#[]⟩ : ByteArray), .slice none 0 0, .slice none 0 0]) (t := 34) ?hr ?_; (case hd => rfl); (case hg => rfl); (case hr => first | (go_simp; done) | (go_simp; rfl)); intro gb274 hg w8 hbox hb; have BK274 := zA (hbox); have GW274 := zA ((by rw [hg]; exact (zQ apA) : w.heap.size ≤ gb274)); have GE274 := zA ((by rw [hg]; exact (zQ apA) : w.heap.size ≤ gb274)); replace HB := zA (zP apA hb); clear hb hbox hg; obtain ⟨hcz9_0, hcz9_1, hcz9_2, hcz9_3, hcz9_4, hcz9_5, hfz9_0, hfz9_1, hfz9_2, hfz9_3, hfz9_4, hfz9_5⟩ := zb6 BK274.out) | ((with_reducible refine zT (f := 38) rfl ?_); refine goesL_ (some 15) rfl rfl Tryd.func38 (by kernel_rfl) rfl #[.agg #[.int .i64 ((rd_T34 l0_4 x9_1).f0), .int .i64 ((rd_T34 l0_4 x9_1).f1.f0), .int .i64 ((rd_T34 l0_4 x9_1).f1.f1), .string ((rd_T34 l0_4 x9_1).f2), .slice A273_4 ((rd_T34 l0_4 x9_1).f3).length c273_4, .slice A273_5 ((rd_T34 l0_4 x9_1).f4).length c273_5]] rfl apE ?_; (with_reducible refine (ih k1 (by have := HK1.out; omega) ((rd_T34 l0_4 x9_1).f0) ((rd_T34 l0_4 x9_1).f1.f0) ((rd_T34 l0_4 x9_1).f1.f1) ((rd_T34 l0_4 x9_1).f2) _ _ ((rd_T34 l0_4 x9_1).f3) _ _ ((rd_T34 l0_4 x9_1).f4) t275 _ ?side1 ?side2 ?side3 ?side4 A7.out).mono ?_); (case side1 => exact Kd.C_below HR273_4.out (by repeat (first | (with_reducible first | exact HB.out | apply zG | apply zE | apply zF | refine zH ?_ GE274.out) | exact HB.out))); (case side2 => exact HC273_4.out); (case side3 => exact Kd.C_below HR273_5.out (by repeat (first | (with_reducible first | exact HB.out | apply zG | apply zE | apply zF | refine zH ?_ GE274.out) | exact HB.out))); (case side4 => exact HC273_5.out); rintro e w10 ⟨rfl, hb⟩; refine ⟨_, rfl, ?_⟩; replace BK274 := zA (zN (g := gb274) (o := .cells #[.int .i64 ((rd_T34 l0_4 x9_1).f0), .int .i64 ((rd_T34 l0_4 x9_1).f1.f0), .int .i64 ((rd_T34 l0_4 x9_1).f1.f1), .string ((rd_T34 l0_4 x9_1).f2), .slice A273_4 ((rd_T34 l0_4 x9_1).f3).length c273_4, .slice A273_5 ((rd_T34 l0_4 x9_1).f4).length c273_5] 34 (0, 0)) (by (with_reducible repeat (first | refine zB ?_ _ | refine zD ?_ | refine zC ?_ _)); refine blk_put (cs := #[.int .i64 ((rd_T34 l0_4 x9_1).f0), .int .i64 ((rd_T34 l0_4 x9_1).f1.f0), .int .i64 ((rd_T34 l0_4 x9_1).f1.f1), .string ((rd_T34 l0_4 x9_1).f2), .slice A273_4 ((rd_T34 l0_4 x9_1).f3).length c273_4, .slice none 0 0]) ?_ 5 _ rfl; (with_reducible repeat (first | refine zB ?_ _ | refine zD ?_ | refine zC ?_ _)); refine blk_put (cs := #[.int .i64 ((rd_T34 l0_4 x9_1).f0), .int .i64 ((rd_T34 l0_4 x9_1).f1.f0), .int .i64 ((rd_T34 l0_4 x9_1).f1.f1), .string ((rd_T34 l0_4 x9_1).f2), .slice none 0 0, .slice none 0 0]) ?_ 4 _ rfl; (with_reducible repeat (first | refine zB ?_ _ | refine zD ?_ | refine zC ?_ _)); refine blk_put (cs := #[.int .i64 ((rd_T34 l0_4 x9_1).f0), .int .i64 ((rd_T34 l0_4 x9_1).f1.f0), .int .i64 ((rd_T34 l0_4 x9_1).f1.f1), .string (⟨#[]⟩ : ByteArray), .slice none 0 0, .slice none 0 0]) ?_ 3 _ rfl; (with_reducible repeat (first | refine zB ?_ _ | refine zD ?_ | refine zC ?_ _)); refine blk_put (cs := #[.int .i64 ((rd_T34 l0_4 x9_1).f0), .int .i64 ((rd_T34 l0_4 x9_1).f1.f0), .int .i64 0, .string (⟨#[]⟩ : ByteArray), .slice none 0 0, .slice none 0 0]) ?_ 2 _ rfl; (with_reducible repeat (first | refine zB ?_ _ | refine zD ?_ | refine zC ?_ _)); refine blk_put (cs := #[.int .i64 ((rd_T34 l0_4 x9_1).f0), .int .i64 0, .int .i64 0, .string (⟨#[]⟩ : ByteArray), .slice none 0 0, .slice none 0 0]) ?_ 1 _ rfl; (with_reducible repeat (first | refine zB ?_ _ | refine zD ?_ | refine zC ?_ _)); refine blk_put (cs := #[.int .i64 0, .int .i64 0, .int .i64 0, .string (⟨#[]⟩ : ByteArray), .slice none 0 0, .slice none 0 0]) ?_ 0 _ rfl; (with_reducible repeat (first | refine zB ?_ _ | refine zD ?_ | refine zC ?_ _)); exact BK274.out) hb); replace HB := zA (zP (by repeat (first | (with_reducible first | exact HB.out | apply zG | apply zE | apply zF | refine zH ?_ GE274.out) | exact HB.out)) hb); (try clear hb); (try clear hb2); (try clear hk); (try clear hi)))
      go_roundg k1
      case measure => have := HK1.out; omega
      case rel => exact ⟨(wrap64 (x3_1 + t275)), (wrap64 (x9_1 + 1)), apC, apC, H', ⟨by have := HK1.out; omega⟩, ⟨by repeat (first | (with_reducible first | exact HB.out | apply zG | apply zE | apply zF | refine zH ?_ GE274.out) | exact HB.out)⟩⟩
     ·rw [if_neg c6] at H
      exact absurd H (by simp)
    ·rw [if_neg c5] at H
     exact absurd H (by simp)
   ·rw [if_neg c4] at H
    have c4b0 : decide (x9_1 < (l0_4.length : Int)) = false := decide_eq_false c4
    clear c4
    obtain rfl := yG H
    go_wp2
    go_ret
    exact ⟨apD, apA⟩


mutual
def spec_l7Deep.l0 : Nat → Int → Int → Int → Int → Int → ByteArray → List (S34) → List ByteArray → Option (Int)
 | 0, _, _, _, _, _, _, _, _ => none
 | k + 1, x3, x4, x145000, x145001, x145002, x145003, x145004, x145005 => if x4 < (x145004.length : Int) then (if 0 ≤ x4 then ((spec_l7Deep.f k ((rd_T34 x145004 x4).f0) ((rd_T34 x145004 x4).f1.f0) ((rd_T34 x145004 x4).f1.f1) ((rd_T34 x145004 x4).f2) ((rd_T34 x145004 x4).f3) ((rd_T34 x145004 x4).f4)).bind fun t146 => (if t146 > x3 then (spec_l7Deep.l0 k t146 (wrap64 (x4 + 1)) x145000 x145001 x145002 x145003 x145004 x145005) else (spec_l7Deep.l0 k x3 (wrap64 (x4 + 1)) x145000 x145001 x145002 x145003 x145004 x145005))) else (none)) else (some (wrap64 (x3 + 1)))
def spec_l7Deep.f : Nat → Int → Int → Int → ByteArray → List (S34) → List ByteArray → Option (Int)
 | 0, _, _, _, _, _, _ => none
 | k + 1, a0_0, a0_1, a0_2, a0_3, l0_4, l0_5 => spec_l7Deep.l0 k 0 0 a0_0 a0_1 a0_2 a0_3 l0_4 l0_5
end
theorem spec_l7Deep.mono_l : ∀ k, (∀ y0 y1 y2 y3 y4 y5, LeO (spec_l7Deep.f k y0 y1 y2 y3 y4 y5) (spec_l7Deep.f (k + 1) y0 y1 y2 y3 y4 y5)) ∧ (∀ y0 y1 y2 y3 y4 y5 y6 y7, LeO (spec_l7Deep.l0 k y0 y1 y2 y3 y4 y5 y6 y7) (spec_l7Deep.l0 (k + 1) y0 y1 y2 y3 y4 y5 y6 y7))
 | 0 => ⟨fun _ _ _ _ _ _ r h => by simp [spec_l7Deep.f] at h, fun _ _ _ _ _ _ _ _ r h => by simp [spec_l7Deep.l0] at h⟩
 | k + 1 => by
  obtain ⟨ih0, ih1⟩ := spec_l7Deep.mono_l k
  refine ⟨?_, ?_⟩
  ·intro y0 y1 y2 y3 y4 y5
   unfold spec_l7Deep.f
   repeat' first
   | (with_reducible exact ih0 _ _ _ _ _ _)
   | (with_reducible exact ih1 _ _ _ _ _ _ _ _)
   | (with_reducible exact LeO.refl _)
   | (with_reducible exact LeO.none _)
   | (with_reducible refine LeO.ite ?_ ?_)
   | (with_reducible refine LeO.bind ?_ (fun _ => ?_))
   | exact ih0 _ _ _ _ _ _
   | exact ih1 _ _ _ _ _ _ _ _
  ·intro y0 y1 y2 y3 y4 y5 y6 y7
   unfold spec_l7Deep.l0
   repeat' first
   | (with_reducible exact ih0 _ _ _ _ _ _)
   | (with_reducible exact ih1 _ _ _ _ _ _ _ _)
   | (with_reducible exact LeO.refl _)
   | (with_reducible exact LeO.none _)
   | (with_reducible refine LeO.ite ?_ ?_)
   | (with_reducible refine LeO.bind ?_ (fun _ => ?_))
   | exact ih0 _ _ _ _ _ _
   | exact ih1 _ _ _ _ _ _ _ _
theorem spec_l7Deep.mono : ∀ a0 a1 a2 a3 a4 a5 k, LeO (spec_l7Deep.f k a0 a1 a2 a3 a4 a5) (spec_l7Deep.f (k + 1) a0 a1 a2 a3 a4 a5) := by
 intro a0 a1 a2 a3 a4 a5 k
 obtain ⟨ih0, ih1⟩ := spec_l7Deep.mono_l k
 exact ih0 a0 a1 a2 a3 a4 a5
set_option maxHeartbeats 8000000 in
set_option maxRecDepth 100000 in
theorem spec_l7Deep.calls (k : Nat) : ∀ (a0_0 : Int) (a0_1 : Int) (a0_2 : Int) (a0_3 : ByteArray) (A0_4 : Option Addr) (c0_4 : Nat) (l0_4 : List (S34)) (A0_5 : Option Addr) (c0_5 : Nat) (l0_5 : List ByteArray) (r : Int) (w : World) (hr0_4 : Kd.C k34 w A0_4 l0_4.length l0_4) (hc0_4 : l0_4.length ≤ c0_4) (hr0_5 : Kd.C Kd.string w A0_5 l0_5.length l0_5) (hc0_5 : l0_5.length ≤ c0_5) (h : spec_l7Deep.f k a0_0 a0_1 a0_2 a0_3 l0_4 l0_5 = some r),
  Calls Tryd.prog 23 #[.agg #[.int .i64 a0_0, .int .i64 a0_1, .int .i64 a0_2, .string a0_3, .slice A0_4 l0_4.length c0_4, .slice A0_5 l0_5.length c0_5]] w fun e w' => e = .returned (.int .i64 r) ∧ Below w.heap.size w w' := by
 induction k using Nat.strongRecOn with
 | _ k ih =>
 intro a0_0 a0_1 a0_2 a0_3 A0_4 c0_4 l0_4 A0_5 c0_5 l0_5 r w hr0_4 hc0_4 hr0_5 hc0_5 h
 cases k with
 | zero => exact absurd h (by simp [spec_l7Deep.f])
 | succ k =>
 simp only [spec_l7Deep.f] at h
 have hu34 := Tryd.underlying34
 have HR0_4 := zA hr0_4
 have HC0_4 := zA hc0_4
 clear hr0_4 hc0_4
 have HR0_5 := zA hr0_5
 have HC0_5 := zA hc0_5
 clear hr0_5 hc0_5
 have HB := zA (yH w.heap.size w)
 have H : (spec_l7Deep.l0 k 0 0 a0_0 a0_1 a0_2 a0_3 l0_4 l0_5) = some r := h
 clear h
 have H' := zA H
 clear H
 go_enter Tryd.func23, Tryd.ntmps23
 go_wp2_with (first | ((with_reducible refine zS (N := 1) rfl ?_); refine zW ?hg (N := 1) ?hd (cs := #[.int .i64 a0_0, .int .i64 a0_1, .int .i64 a0_2, .string a0_3, .slice A0_4 l0_4.length c0_4, .slice A0_5 l0_5.length c0_5]) (t := 34) ?hr ?_; (case hd => rfl); (case hg => rfl); (case hr => first | (go_simp; done) | (go_simp; rfl)); intro gb144 hg w2 hbox hb; have BK144 := zA (hbox); have GW144 := zA ((by rw [hg]; exact (zQ apA) : w.heap.size ≤ gb144)); have GE144 := zA ((by rw [hg]; exact (zQ apA) : w.heap.size ≤ gb144)); replace HB := zA (zP apA hb); clear hb hbox hg))
 go_loopg [3, 4] k (fun kq v3 v4 w' => ∃ (x3_1 : Int) (x4_1 : Int), v3 = .int .i64 x3_1 ∧ v4 = .int .i64 x4_1 ∧ Aside0 (spec_l7Deep.l0 kq x3_1 x4_1 a0_0 a0_1 a0_2 a0_3 l0_4 l0_5 = some r) ∧ Aside0 (kq ≤ k) ∧ Aside0 (w'.heap[gb144]? = some (.cells #[.int .i64 a0_0, .int .i64 a0_1, .int .i64 a0_2, .string a0_3, (.slice A0_4 l0_4.length c0_4), (.slice A0_5 l0_5.length c0_5)] 34 (0, 0))) ∧ Aside0 (Below w.heap.size w w'))
 case atStart => exact ⟨(0), (0), apC, apC, H', ⟨yJ _⟩, ⟨by (with_reducible repeat (first | refine zB ?_ _ | refine zD ?_ | refine zC ?_ _)); exact BK144.out⟩, ⟨by repeat (first | (with_reducible first | exact HB.out | apply zG | apply zE | apply zF | refine zH ?_ GE144.out) | exact HB.out)⟩⟩
 case round =>
  clear H'
  try clear c2 p2
  obtain ⟨x3_1, x4_1, rfl, rfl, HA, HK1, BK144, HB⟩ := hrel
  cases gk with
  | zero => exact absurd HA.out (by simp [spec_l7Deep.l0])
  | succ k1 =>
   have H := HA.out
   clear HA
   simp only [spec_l7Deep.l0] at H
   by_cases c3 : x4_1 < (l0_4.length : Int)
   ·rw [if_pos c3] at H
    have c3b0 : decide (x4_1 < (l0_4.length : Int)) = true := yE c3
    clear c3
    by_cases c4 : 0 ≤ x4_1
    ·rw [if_pos c4] at H
     have c4b0 : decide (0 ≤ x4_1) = true := yE c4
     clear c4
     replace H := Option.bind_eq_some_iff.mp H
     obtain ⟨t146, A50, H⟩ := H
     have A5 := zA A50
     clear A50
     by_cases c6 : t146 > x3_1
     ·rw [if_pos c6] at H
      have c6b0 : decide (x3_1 < t146) = true := yE c6
      clear c6
      have H' := zA H
      clear H
      obtain ⟨hcz7_0, hcz7_1, hcz7_2, hcz7_3, hcz7_4, hcz7_5, hfz7_0, hfz7_1, hfz7_2, hfz7_3, hfz7_4, hfz7_5⟩ := zb6 BK144.out
      have p145 : 0 ≤ (x4_1 : Int) := yF apB
      have q145 : x4_1 < (l0_4.length : Int) := yF apB
      obtain ⟨ad145, A145_4, c145_4, A145_5, c145_5, e145, hx145_0, hx145_1, hx145_2, hx145_3, hx145_4, hx145_5, hl145_4, hi145_4, hl145_5, hi145_5⟩ := at_T34 HR0_4.out x4_1 p145 q145
      cases e145
      replace hx145_0 := (HB.out.cell (zR w _ hx145_0)).trans hx145_0
      replace hx145_1 := (HB.out.cell (zR w _ hx145_1)).trans hx145_1
      replace hx145_2 := (HB.out.cell (zR w _ hx145_2)).trans hx145_2
      replace hx145_3 := (HB.out.cell (zR w _ hx145_3)).trans hx145_3
      replace hx145_4 := (HB.out.cell (zR w _ hx145_4)).trans hx145_4
      replace hx145_5 := (HB.out.cell (zR w _ hx145_5)).trans hx145_5
      have HR145_4 := zA hi145_4
      have HC145_4 := zA hl145_4
      clear hi145_4 hl145_4
      have HR145_5 := zA hi145_5
      have HC145_5 := zA hl145_5
      clear hi145_5 hl145_5
      replace p145 := eq_true p145
      replace q145 := eq_true q145
      go_wp2_with (first | ((with_reducible refine zT (f := 23) rfl ?_); refine goesL_ (some 18) rfl rfl Tryd.func23 (by kernel_rfl) rfl #[.agg #[.int .i64 ((rd_T34 l0_4 x4_1).f0), .int .i64 ((rd_T34 l0_4 x4_1).f1.f0), .int .i64 ((rd_T34 l0_4 x4_1).f1.f1), .string ((rd_T34 l0_4 x4_1).f2), .slice A145_4 ((rd_T34 l0_4 x4_1).f3).length c145_4, .slice A145_5 ((rd_T34 l0_4 x4_1).f4).length c145_5]] rfl apE ?_; (with_reducible refine (ih k1 (by have := HK1.out; omega) ((rd_T34 l0_4 x4_1).f0) ((rd_T34 l0_4 x4_1).f1.f0) ((rd_T34 l0_4 x4_1).f1.f1) ((rd_T34 l0_4 x4_1).f2) _ _ ((rd_T34 l0_4 x4_1).f3) _ _ ((rd_T34 l0_4 x4_1).f4) t146 _ ?side1 ?side2 ?side3 ?side4 A5.out).mono ?_); (case side1 => exact vc (Kd.C_below HR145_4.out HB.out)); (case side2 => exact HC145_4.out); (case side3 => exact vc (Kd.C_below HR145_5.out HB.out)); (case side4 => exact HC145_5.out); rintro e w8 ⟨rfl, hb⟩; refine ⟨_, rfl, ?_⟩; replace BK144 := zA (zN (g := gb144) (o := .cells #[.int .i64 a0_0, .int .i64 a0_1, .int .i64 a0_2, .string a0_3, .slice (some ad145) l0_4.length c0_4, .slice A0_5 l0_5.length c0_5] 34 (0, 0)) (by (with_reducible repeat (first | refine zB ?_ _ | refine zD ?_ | refine zC ?_ _)); exact BK144.out) hb); replace HB := zA (zP (by repeat (first | (with_reducible first | exact HB.out | apply zG | apply zE | apply zF | refine zH ?_ GE144.out) | exact HB.out)) hb); (try clear hb); (try clear hb2); (try clear hk); (try clear hi)))
      go_roundg k1
      case measure => have := HK1.out; omega
      case rel => exact ⟨(t146), (wrap64 (x4_1 + 1)), apC, apC, H', ⟨by have := HK1.out; omega⟩, ⟨by (with_reducible repeat (first | refine zB ?_ _ | refine zD ?_ | refine zC ?_ _)); exact BK144.out⟩, ⟨by repeat (first | (with_reducible first | exact HB.out | apply zG | apply zE | apply zF | refine zH ?_ GE144.out) | exact HB.out)⟩⟩
     ·rw [if_neg c6] at H
      have c6b0 : decide (x3_1 < t146) = false := decide_eq_false c6
      clear c6
      have H' := zA H
      clear H
      obtain ⟨hcz9_0, hcz9_1, hcz9_2, hcz9_3, hcz9_4, hcz9_5, hfz9_0, hfz9_1, hfz9_2, hfz9_3, hfz9_4, hfz9_5⟩ := zb6 BK144.out
      have p145 : 0 ≤ (x4_1 : Int) := yF apB
      have q145 : x4_1 < (l0_4.length : Int) := yF apB
      obtain ⟨ad145, A145_4, c145_4, A145_5, c145_5, e145, hx145_0, hx145_1, hx145_2, hx145_3, hx145_4, hx145_5, hl145_4, hi145_4, hl145_5, hi145_5⟩ := at_T34 HR0_4.out x4_1 p145 q145
      cases e145
      replace hx145_0 := (HB.out.cell (zR w _ hx145_0)).trans hx145_0
      replace hx145_1 := (HB.out.cell (zR w _ hx145_1)).trans hx145_1
      replace hx145_2 := (HB.out.cell (zR w _ hx145_2)).trans hx145_2
      replace hx145_3 := (HB.out.cell (zR w _ hx145_3)).trans hx145_3
      replace hx145_4 := (HB.out.cell (zR w _ hx145_4)).trans hx145_4
      replace hx145_5 := (HB.out.cell (zR w _ hx145_5)).trans hx145_5
      have HR145_4 := zA hi145_4
      have HC145_4 := zA hl145_4
      clear hi145_4 hl145_4
      have HR145_5 := zA hi145_5
      have HC145_5 := zA hl145_5
      clear hi145_5 hl145_5
      replace p145 := eq_true p145
      replace q145 := eq_true q145
      go_wp2_with (first | ((with_reducible refine zT (f := 23) rfl ?_); refine goesL_ (some 18) rfl rfl Tryd.func23 (by kernel_rfl) rfl #[.agg #[.int .i64 ((rd_T34 l0_4 x4_1).f0), .int .i64 ((rd_T34 l0_4 x4_1).f1.f0), .int .i64 ((rd_T34 l0_4 x4_1).f1.f1), .string ((rd_T34 l0_4 x4_1).f2), .slice A145_4 ((rd_T34 l0_4 x4_1).f3).length c145_4, .slice A145_5 ((rd_T34 l0_4 x4_1).f4).length c145_5]] rfl apE ?_; (with_reducible refine (ih k1 (by have := HK1.out; omega) ((rd_T34 l0_4 x4_1).f0) ((rd_T34 l0_4 x4_1).f1.f0) ((rd_T34 l0_4 x4_1).f1.f1) ((rd_T34 l0_4 x4_1).f2) _ _ ((rd_T34 l0_4 x4_1).f3) _ _ ((rd_T34 l0_4 x4_1).f4) t146 _ ?side1 ?side2 ?side3 ?side4 A5.out).mono ?_); (case side1 => exact vc (Kd.C_below HR145_4.out HB.out)); (case side2 => exact HC145_4.out); (case side3 => exact vc (Kd.C_below HR145_5.out HB.out)); (case side4 => exact HC145_5.out); rintro e w10 ⟨rfl, hb⟩; refine ⟨_, rfl, ?_⟩; replace BK144 := zA (zN (g := gb144) (o := .cells #[.int .i64 a0_0, .int .i64 a0_1, .int .i64 a0_2, .string a0_3, .slice (some ad145) l0_4.length c0_4, .slice A0_5 l0_5.length c0_5] 34 (0, 0)) (by (with_reducible repeat (first | refine zB ?_ _ | refine zD ?_ | refine zC ?_ _)); exact BK144.out) hb); replace HB := zA (zP (by repeat (first | (with_reducible first | exact HB.out | apply zG | apply zE | apply zF | refine zH ?_ GE144.out) | exact HB.out)) hb); (try clear hb); (try clear hb2); (try clear hk); (try clear hi)))
      go_roundg k1
      case measure => have := HK1.out; omega
      case rel => exact ⟨(x3_1), (wrap64 (x4_1 + 1)), apC, apC, H', ⟨by have := HK1.out; omega⟩, ⟨by (with_reducible repeat (first | refine zB ?_ _ | refine zD ?_ | refine zC ?_ _)); exact BK144.out⟩, ⟨by repeat (first | (with_reducible first | exact HB.out | apply zG | apply zE | apply zF | refine zH ?_ GE144.out) | exact HB.out)⟩⟩
    ·rw [if_neg c4] at H
     exact absurd H (by simp)
   ·rw [if_neg c3] at H
    have c3b0 : decide (x4_1 < (l0_4.length : Int)) = false := decide_eq_false c3
    clear c3
    obtain rfl := yG H
    obtain ⟨hcz11_0, hcz11_1, hcz11_2, hcz11_3, hcz11_4, hcz11_5, hfz11_0, hfz11_1, hfz11_2, hfz11_3, hfz11_4, hfz11_5⟩ := zb6 BK144.out
    go_wp2
    go_ret
    exact ⟨apD, by repeat (first | (with_reducible first | exact HB.out | apply zG | apply zE | apply zF | refine zH ?_ GE144.out) | exact HB.out)⟩

end Go.Proofs.YthaceblepbkjjaaDoor.Q
