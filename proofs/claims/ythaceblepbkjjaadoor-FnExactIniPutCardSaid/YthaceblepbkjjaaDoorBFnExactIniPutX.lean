-- laid by a program of this session (wip/tools) out of the words' text that the kit's program laid: only what this claim uses; Lean checks it
import Derived.Test.YthaceblepbkjjaaDoorBFnExactIniPutWLast
import Derived.Test.YthaceblepbkjjaaDoorBFnExactIniPutWMore
import Derived.Laws.Cover1
import Derived.Lib.LaidTab
import Derived.Lib.ItoaNum
import Derived.FnData
namespace Go.Proofs.YthaceblepbkjjaaDoorX
set_option linter.unusedVariables false
set_option linter.unusedSimpArgs false
open Go.RowKit Go.Proofs.YthaceblepbkjjaaDoorW.PrintWords Go.Proofs.YthaceblepbkjjaaDoorW.PrintLast
section
variable {P : Program} {ops : Array Oper} {Q : Exit → Act → World → Prop}
theorem gate_calleev {rest : List Oper} {o : Oper} {a : Act} {W : World} {f : FuncId} {x : Operand} {as : Array Operand} {ts : Array TypeId} (_ho : o.op = .call { callee := .value x, args := as, argTypes := ts }) (_hv : a.eval x = .func (.func f) #[] #[]) (h : wpList P ops Q (o :: rest) a W) : wpList P ops Q (o :: rest) a W := h
theorem goesvL_ {rest : List Oper} {oi : Oper} {a : Act} {w : World} (N : Option Tmp) (hd : oi.dst = N) (hg : oi.guard = none) {f : FuncId} {fn : Func} {x : Operand} {as : Array Operand} {ts : Array TypeId} (hf : P.funcs[f]? = some fn) (hname : (fn.name == "runtime.NumGoroutine") = false) (hb : fn.body.isSome = true) (args : Array Value)
    (hop : oi.op = .call { callee := .value x, args := as, argTypes := ts }) (hv : a.eval x = .func (.func f) #[] #[]) (hargs : as.map a.eval = args)
    (h : Calls P f args w fun e w' => ∃ v, e = .returned v ∧ wpList P ops Q rest (a.put N v) w') : wpList P ops Q (oi :: rest) a w := by
  refine wpList_plain hg fun K hK => ?_
  have he := enters_ hf hname hb args w
  have hrun : (execOp a.eval oi).run P w = .ok (.enter f args) w := by
    unfold execOp
    simp [hop, resolve, Deferred.ofValue, invoke, hv, hargs, he]
  unfold Oper.wp
  rw [hrun, Oper.upon_enter]
  refine h.mono fun e w'' hh => ?_
  obtain ⟨v, rfl, hk⟩ := hh
  subst hd
  exact hK _ _ hk
theorem gate_calleevc {rest : List Oper} {o : Oper} {a : Act} {W : World} {f : FuncId} {x : Operand} {as : Array Operand} {ts : Array TypeId} {cap : Array Value} (_ho : o.op = .call { callee := .value x, args := as, argTypes := ts }) (_hv : a.eval x = .func (.func f) #[] cap) (h : wpList P ops Q (o :: rest) a W) : wpList P ops Q (o :: rest) a W := h
theorem goesvcL_ {rest : List Oper} {oi : Oper} {a : Act} {w : World} (N : Option Tmp) (hd : oi.dst = N) (hg : oi.guard = none) {f : FuncId} {fn : Func} {x : Operand} {as : Array Operand} {ts : Array TypeId} {cap : Array Value} (hf : P.funcs[f]? = some fn) (hname : (fn.name == "runtime.NumGoroutine") = false) (hb : fn.body.isSome = true) (args : Array Value)
    (hop : oi.op = .call { callee := .value x, args := as, argTypes := ts }) (hv : a.eval x = .func (.func f) #[] cap) (hargs : as.map a.eval ++ cap = args)
    (h : Calls P f args w fun e w' => ∃ v, e = .returned v ∧ wpList P ops Q rest (a.put N v) w') : wpList P ops Q (oi :: rest) a w := by
  refine wpList_plain hg fun K hK => ?_
  have he := enters_ hf hname hb args w
  have hrun : (execOp a.eval oi).run P w = .ok (.enter f args) w := by
    unfold execOp
    simp [hop, resolve, Deferred.ofValue, invoke, hv, hargs, he]
  unfold Oper.wp
  rw [hrun, Oper.upon_enter]
  refine h.mono fun e w'' hh => ?_
  obtain ⟨v, rfl, hk⟩ := hh
  subst hd
  exact hK _ _ hk
end
theorem tab_below {P : Program} {w w1 : World} {name : String} {k : IntKind} {zs : List Int} (hb : Below w.heap.size w w1) (h : Lib.TabIs P w name k zs) : Lib.TabIs P w1 name k zs := by
  unfold Lib.TabIs World.var? at h ⊢
  cases hg : P.globalNamed name with
  | none => rw [hg] at h; cases h
  | some g =>
    rw [hg] at h
    simp only [Option.bind_some] at h ⊢
    have hlt : g < w.heap.size := by
      rcases Nat.lt_or_ge g w.heap.size with h1 | h1
      · exact h1
      · rw [Array.getElem?_eq_none h1] at h
        cases h
    rw [hb.block g hlt]
    exact h
def kTab (P : Program) (name : String) (k : IntKind) (zs : List Int) : Kd Int where
  sz := 1
  E := []
  K := fun w x cs => cs = [.int k x] ∧ Lib.TabIs P w name k zs
  M := fun _ _ _ _ _ => False
  K_len := by
    rintro w x cs ⟨rfl, _⟩
    rfl
  K_one := by
    rintro w x cs ⟨rfl, _⟩ u hu
    rw [List.mem_singleton.1 hu]
    rfl
  K_below := by
    rintro w w1 x cs hb ⟨rfl, h⟩
    exact ⟨rfl, tab_below hb h⟩
  K_of_M := fun h => h.elim
  M_mono := fun _ h => h.elim
  M_bound := fun h => h.elim
  M_move := fun _ h => h.elim
  M_lower := fun _ h => h.elim
theorem tab_of {P : Program} {w : World} {name : String} {k : IntKind} {zs : List Int} {A : Option Addr} {n : Nat} {x : Int} (h : Kd.C (kTab P name k zs) w A n [x]) : Lib.TabIs P w name k zs := by
  obtain ⟨hl, _, hc⟩ := h
  obtain ⟨ad, _, hr⟩ := hc (by rw [← hl]; exact Nat.one_pos)
  obtain ⟨c, _, hK, _⟩ := hr 0 x rfl
  exact hK.2
theorem tab_mk {P : Program} {w : World} {g : Nat} {name : String} {k : IntKind} {zs : List Int} {x : Int} (hg : P.globalNamed name = some g) (hx : zs[0]? = some x) (h : Lib.TabIs P w name k zs) : Kd.C (kTab P name k zs) w (some ⟨g, 0, none⟩) 1 [x] := by
  refine ⟨rfl, by decide, fun _ => ⟨⟨g, 0, none⟩, rfl, fun j p hj => ?_⟩⟩
  match j, hj with
  | 0, hj =>
    obtain rfl := Option.some.inj hj
    refine ⟨[.int k x], rfl, ⟨rfl, h⟩, fun i u hu => ?_⟩
    match i, hu with
    | 0, hu =>
      obtain rfl := Option.some.inj hu
      have := World.var?_cell hg h 0
      show w.cell? (Addr.mk g 0 none) = _
      rw [this]
      simp [hx]
    | i + 1, hu => simp at hu
  | j + 1, hj => simp at hj
theorem isEmpty_bne (l : List UInt8) : (l != []) = !l.isEmpty := by cases l <;> rfl
@[go_sem] theorem run_store_fn9 {P : Program} {w : World} {a : Addr} {m : Mode} (f : Fn) (vs ws : Array Value) : (store a (.func f vs ws) m).run P w = stored P w a (.func f vs ws) m := run_store P w a _ m rfl
def fnVal (g : Nat) (_ : Int) : Value := .func (.func g) #[] #[]
abbrev kFn (g : Nat) : Kd Int := Kd.scalar (fnVal g) (fun _ => rfl)
theorem at_fn {g : Nat} {w : World} {A : Option Addr} {n : Nat} {xs : List Int} (h : (kFn g).C w A n xs) (i : Int) (h0 : 0 ≤ i) (h1 : i < n) : ∃ ad, A = some ad ∧ w.cell? (ad.add i.toNat) = some (.func (.func g) #[] #[]) :=
  ReadsOf.at_ (Kd.reads_of_C (enc := fnVal g) (d := (0 : Int)) (h1 := fun _ => rfl) h) i h0 h1
theorem cap_mkF {w : World} {f g t : Nat} {m : Int} (h : w.heap[g]? = some (.cells #[.func (.func f) #[] #[]] t (0, 0))) : Kd.C (kFn f) w (some ⟨g, 0, none⟩) [m].length [m] := by
  refine ⟨rfl, by show 1 ≤ _; omega, fun _ => ⟨⟨g, 0, none⟩, rfl, fun j p hj => ?_⟩⟩
  match j, hj with
  | 0, hj =>
    obtain rfl := Option.some.inj hj
    refine ⟨[.func (.func f) #[] #[]], rfl, rfl, fun i u hu => ?_⟩
    match i, hu with
    | 0, hu =>
      obtain rfl := Option.some.inj hu
      exact (blk_cell h 0).trans rfl
    | i + 1, hu => simp at hu
  | j + 1, hj => simp at hj
theorem cap_mk {w : World} {k : IntKind} {g t : Nat} {m : Int} (h : w.heap[g]? = some (.cells #[.int k m] t (0, 0))) : Kd.C (Kd.int k) w (some ⟨g, 0, none⟩) [m].length [m] := by
  refine ⟨rfl, by show 1 ≤ _; omega, fun _ => ⟨⟨g, 0, none⟩, rfl, fun j p hj => ?_⟩⟩
  match j, hj with
  | 0, hj =>
    obtain rfl := Option.some.inj hj
    refine ⟨[.int k m], rfl, rfl, fun i u hu => ?_⟩
    match i, hu with
    | 0, hu =>
      obtain rfl := Option.some.inj hu
      exact (blk_cell h 0).trans rfl
    | i + 1, hu => simp at hu
  | j + 1, hj => simp at hj
end Go.Proofs.YthaceblepbkjjaaDoorX
