-- laid by a program of this session (wip/tools) out of the words' text that the kit's program laid: only what this claim uses; Lean checks it
import Derived.Test.YtoajejdicfabmaaDoorBFnValueOkWLast
import Derived.Test.YtoajejdicfabmaaDoorBFnValueOkWMore
import Derived.Laws.Cover1
import Derived.Lib.LaidTab
import Derived.Lib.ItoaNum
import Derived.FnData
namespace Go.Proofs.YtoajejdicfabmaaDoorX
set_option linter.unusedVariables false
set_option linter.unusedSimpArgs false
open Go.RowKit Go.Proofs.YtoajejdicfabmaaDoorW.PrintWords Go.Proofs.YtoajejdicfabmaaDoorW.PrintLast
section
variable {P : Program} {ops : Array Oper} {Q : Exit → Act → World → Prop}
theorem gate_calleevc {rest : List Oper} {o : Oper} {a : Act} {W : World} {f : FuncId} {x : Operand} {as : Array Operand} {ts : Array TypeId} {cap : Array Value} (_ho : o.op = .call { callee := .value x, args := as, argTypes := ts }) (_hv : a.eval x = .func (.func f) #[] cap) (h : wpList P ops Q (o :: rest) a W) : wpList P ops Q (o :: rest) a W := h
theorem goesvcL_ {rest : List Oper} {oi : Oper} {a : Act} {w : World} (N : Option Tmp) (hd : oi.dst = N) (hg : oi.guard = none) {f : FuncId} {fn : Func} {x : Operand} {as : Array Operand} {ts : Array TypeId} {cap : Array Value} (hf : P.funcs[f]? = some fn) (hname : (fn.name == "runtime.NumGoroutine") = false) (hb : fn.body.isSome = true) (args : Array Value)
    (hop : oi.op = .call { callee := .value x, args := as, argTypes := ts }) (hv : a.eval x = .func (.func f) #[] cap) (hargs : as.map a.eval ++ cap = args)
    (h : Calls P f args w fun e w' => ∃ v, e = .returned v ∧ wpList P ops Q rest (a.put N v) w') : wpList P ops Q (oi :: rest) a w := by
  refine wpList_plain hg fun K hK => ?_
  have he := enters_ hf hname hb args w
  have hrun : (execOp a.eval oi).run P w = .ok (.enter f args) w := by
    unfold execOp
    simp [hop, resolve, Deferred.ofValue, invoke, hv, hargs, he]
  unfold Oper.wp
  rw [hrun, Oper.upon_enter]
  refine h.mono fun e w'' hh => ?_
  obtain ⟨v, rfl, hk⟩ := hh
  subst hd
  exact hK _ _ hk
end
theorem isEmpty_bne (l : List UInt8) : (l != []) = !l.isEmpty := by cases l <;> rfl
@[go_sem] theorem run_store_fn9 {P : Program} {w : World} {a : Addr} {m : Mode} (f : Fn) (vs ws : Array Value) : (store a (.func f vs ws) m).run P w = stored P w a (.func f vs ws) m := run_store P w a _ m rfl
theorem cap_mk {w : World} {k : IntKind} {g t : Nat} {m : Int} (h : w.heap[g]? = some (.cells #[.int k m] t (0, 0))) : Kd.C (Kd.int k) w (some ⟨g, 0, none⟩) [m].length [m] := by
  refine ⟨rfl, by show 1 ≤ _; omega, fun _ => ⟨⟨g, 0, none⟩, rfl, fun j p hj => ?_⟩⟩
  match j, hj with
  | 0, hj =>
    obtain rfl := Option.some.inj hj
    refine ⟨[.int k m], rfl, rfl, fun i u hu => ?_⟩
    match i, hu with
    | 0, hu =>
      obtain rfl := Option.some.inj hu
      exact (blk_cell h 0).trans rfl
    | i + 1, hu => simp at hu
  | j + 1, hj => simp at hj
end Go.Proofs.YtoajejdicfabmaaDoorX
