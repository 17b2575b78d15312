import Derived.Test.YtekkdhkcdjoooaaDoorWLast
import Derived.Test.YtekkdhkcdjoooaaDoorWMore
import Derived.Laws.Cover1
import Derived.Lib.LaidTab
import Derived.Lib.ItoaNum
import Derived.FnData
namespace Go.Proofs.YtekkdhkcdjoooaaDoorX
set_option linter.unusedVariables false
set_option linter.unusedSimpArgs false
open Go.RowKit Go.Proofs.YtekkdhkcdjoooaaDoorW.PrintWords Go.Proofs.YtekkdhkcdjoooaaDoorW.PrintLast
section
variable {P : Program} {ops : Array Oper} {Q : Exit → Act → World → Prop}
/-- The operation is a call of a function value that a slot holds. -/
theorem gate_calleev {rest : List Oper} {o : Oper} {a : Act} {W : World} {f : FuncId} {x : Operand} {as : Array Operand} {ts : Array TypeId} (_ho : o.op = .call { callee := .value x, args := as, argTypes := ts }) (_hv : a.eval x = .func (.func f) #[] #[]) (h : wpList P ops Q (o :: rest) a W) : wpList P ops Q (o :: rest) a W := h
theorem goesv_ {oi : Oper} {N : Option Tmp} {a : Act} {w : World} {K : Act → World → Prop} {f : FuncId} {fn : Func} {x : Operand} {as : Array Operand} {ts : Array TypeId} (hf : P.funcs[f]? = some fn) (hname : (fn.name == "runtime.NumGoroutine") = false) (hb : fn.body.isSome = true) (args : Array Value)
    (hw : Region.wanted oi (yielded ops a.tmps) = true) (hN : oi.dst = N) (hop : oi.op = .call { callee := .value x, args := as, argTypes := ts }) (hv : a.eval x = .func (.func f) #[] #[]) (hargs : as.map a.eval = args)
    (h : Calls P f args w fun e w' => ∃ v, e = .returned v ∧ K (a.put N v) w') : if Region.wanted oi (yielded ops a.tmps) = true then Oper.wp P oi a w K Q else K (a.put N undef) w := by
  refine call_ f args hw hN ?_ h
  have he := enters_ hf hname hb args w
  unfold execOp
  simp [hop, resolve, Deferred.ofValue, invoke, hv, hargs, he]
theorem goesvL_ {rest : List Oper} {oi : Oper} {a : Act} {w : World} (N : Option Tmp) (hd : oi.dst = N) (hg : oi.guard = none) {f : FuncId} {fn : Func} {x : Operand} {as : Array Operand} {ts : Array TypeId} (hf : P.funcs[f]? = some fn) (hname : (fn.name == "runtime.NumGoroutine") = false) (hb : fn.body.isSome = true) (args : Array Value)
    (hop : oi.op = .call { callee := .value x, args := as, argTypes := ts }) (hv : a.eval x = .func (.func f) #[] #[]) (hargs : as.map a.eval = args)
    (h : Calls P f args w fun e w' => ∃ v, e = .returned v ∧ wpList P ops Q rest (a.put N v) w') : wpList P ops Q (oi :: rest) a w := by
  refine wpList_plain hg fun K hK => ?_
  have he := enters_ hf hname hb args w
  have hrun : (execOp a.eval oi).run P w = .ok (.enter f args) w := by
    unfold execOp
    simp [hop, resolve, Deferred.ofValue, invoke, hv, hargs, he]
  unfold Oper.wp
  rw [hrun, Oper.upon_enter]
  refine h.mono fun e w'' hh => ?_
  obtain ⟨v, rfl, hk⟩ := hh
  subst hd
  exact hK _ _ hk
end
/-! A table of the library's as a row: its first number, and that the whole block is the table. -/
theorem tab_below {P : Program} {w w1 : World} {name : String} {k : IntKind} {zs : List Int} (hb : Below w.heap.size w w1) (h : Lib.TabIs P w name k zs) : Lib.TabIs P w1 name k zs := by
  unfold Lib.TabIs World.var? at h ⊢
  cases hg : P.globalNamed name with
  | none => rw [hg] at h; cases h
  | some g =>
    rw [hg] at h
    simp only [Option.bind_some] at h ⊢
    have hlt : g < w.heap.size := by
      rcases Nat.lt_or_ge g w.heap.size with h1 | h1
      · exact h1
      · rw [Array.getElem?_eq_none h1] at h
        cases h
    rw [hb.block g hlt]
    exact h
def kTab (P : Program) (name : String) (k : IntKind) (zs : List Int) : Kd Int where
  sz := 1
  E := []
  K := fun w x cs => cs = [.int k x] ∧ Lib.TabIs P w name k zs
  M := fun _ _ _ _ _ => False
  K_len := by
    rintro w x cs ⟨rfl, _⟩
    rfl
  K_one := by
    rintro w x cs ⟨rfl, _⟩ u hu
    rw [List.mem_singleton.1 hu]
    rfl
  K_below := by
    rintro w w1 x cs hb ⟨rfl, h⟩
    exact ⟨rfl, tab_below hb h⟩
  K_of_M := fun h => h.elim
  M_mono := fun _ h => h.elim
  M_bound := fun h => h.elim
  M_move := fun _ h => h.elim
  M_lower := fun _ h => h.elim
theorem tab_of {P : Program} {w : World} {name : String} {k : IntKind} {zs : List Int} {A : Option Addr} {n : Nat} {x : Int} (h : Kd.C (kTab P name k zs) w A n [x]) : Lib.TabIs P w name k zs := by
  obtain ⟨hl, _, hc⟩ := h
  obtain ⟨ad, _, hr⟩ := hc (by rw [← hl]; exact Nat.one_pos)
  obtain ⟨c, _, hK, _⟩ := hr 0 x rfl
  exact hK.2
theorem tab_mk {P : Program} {w : World} {g : Nat} {name : String} {k : IntKind} {zs : List Int} {x : Int} (hg : P.globalNamed name = some g) (hx : zs[0]? = some x) (h : Lib.TabIs P w name k zs) : Kd.C (kTab P name k zs) w (some ⟨g, 0, none⟩) 1 [x] := by
  refine ⟨rfl, by decide, fun _ => ⟨⟨g, 0, none⟩, rfl, fun j p hj => ?_⟩⟩
  match j, hj with
  | 0, hj =>
    obtain rfl := Option.some.inj hj
    refine ⟨[.int k x], rfl, ⟨rfl, h⟩, fun i u hu => ?_⟩
    match i, hu with
    | 0, hu =>
      obtain rfl := Option.some.inj hu
      have := World.var?_cell hg h 0
      show w.cell? (Addr.mk g 0 none) = _
      rw [this]
      simp [hx]
    | i + 1, hu => simp at hu
  | j + 1, hj => simp at hj
theorem cell_of {w : World} {k : IntKind} {ad : Addr} {n : Nat} {m : Int} (h : Kd.C (Kd.int k) w (some ad) n [m]) : w.cell? ad = some (.int k m) := by
  obtain ⟨hl, _, hc⟩ := h
  obtain ⟨a, e, hr⟩ := hc (by rw [← hl]; exact Nat.one_pos)
  obtain rfl := Option.some.inj e
  obtain ⟨c, _, hK, hcell⟩ := hr 0 m rfl
  have hK2 : c = [.int k m] := hK
  subst hK2
  have := hcell 0 _ rfl
  rw [show (0 : Nat) * (Kd.int k).sz + 0 = 0 by simp] at this
  rw [show ad.add 0 = ad from by cases ad; simp [Addr.add]] at this
  exact this
theorem isEmpty_bne (l : List UInt8) : (l != []) = !l.isEmpty := by cases l <;> rfl
theorem some_getD {o : Option Int} (h : o.isSome = true) : o = some (o.getD 0) := by
  cases o with
  | none => cases h
  | some x => rfl
end Go.Proofs.YtekkdhkcdjoooaaDoorX
