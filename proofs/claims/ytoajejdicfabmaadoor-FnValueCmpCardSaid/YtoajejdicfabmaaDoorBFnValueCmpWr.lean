import Derived.Test.YtoajejdicfabmaaDoorRows
import Derived.Test.YtoajejdicfabmaaDoorBFnValueCmpNm
import Derived.ProofKit
import Derived.LaidMore
import Derived.OpenShut
import Derived.Stop.Joined
import Derived.OpenVars
namespace Go.Proofs.YtoajejdicfabmaaDoor.Wr
set_option linter.unusedVariables false
set_option linter.unusedSimpArgs false
open Go Go.RowKit Go.Proofs.YtoajejdicfabmaaDoor.Q Go.Proofs.YtoajejdicfabmaaDoorW.PrintWords Go.Proofs.YtoajejdicfabmaaDoorW.PrintLast
theorem pickAll {α : Type} {Q : Nat → α → Prop} {n : Nat} (h : ∀ i, i < n → ∃ x, Q i x) : ∃ xs : List α, xs.length = n ∧ ∀ i (hi : i < xs.length), Q i xs[i] := by
 refine ⟨List.ofFn fun i : Fin n => (h i i.2).choose, by simp, fun i hi => ?_⟩
 have hi' : i < n := by simpa using hi
 rw [List.getElem_ofFn]
 exact (h i hi').choose_spec
section
variable {H : Type} {enc : TypeId × Value → H} {P : Program} {W : World} {sp : Nat → Bool} {held : Bool}
theorem br_slice {α : Type} (D : Kd α) (Pr : α → Prop) {t e : TypeId} {fuel : Nat} {cs : List Value} {y : DataW H × List MemPlace} (ht : P.underlying t = some (.slice e)) (hc : P.cellsOf e = D.sz)
  (ih : ∀ m cs y, DataW.trod enc P W 0 sp held m e cs = some y → ∃ x, D.K W x cs ∧ Pr x) (h : DataW.trod enc P W 0 sp held fuel t cs = some y) :
  ∃ A c xs, cs = [.slice A xs.length c] ∧ xs.length ≤ c ∧ c ≤ 9223372036854775807 ∧ D.C W A xs.length xs ∧ ∀ x, x ∈ xs → Pr x := by
 rcases DataW.trod_slice ht h with ⟨rfl, _⟩ | ⟨a, len, cap, elems, rest, n, hn, rfl, _, _, hl, hm, hlen, hel, _, _⟩
 ·exact ⟨none, 0, [], rfl, Nat.le_refl _, by omega, Kd.C_nil D W, fun x hx => absurd hx List.not_mem_nil⟩
 ·have each : ∀ i, i < len → ∃ x : α, (∃ c : List Value, c.length = D.sz ∧ D.K W x c ∧ ∀ j u, c[j]? = some u → W.cell? (a.add (i * D.sz + j)) = some u) ∧ Pr x := by
   intro i hi
   have hb := hel i hi
   rw [List.getElem?_eq_getElem (by omega)] at hb
   obtain ⟨c, hcell, htr⟩ := Option.bind_eq_some_iff.1 hb
   obtain ⟨x, hK, hP⟩ := ih n c _ htr
   refine ⟨x, ⟨c, D.K_len hK, hK, fun j u hj => ?_⟩, hP⟩
   unfold World.cells? at hcell
   split at hcell
   ·have hl2 := mapM_some_length hcell
    rw [List.length_range] at hl2
    have hjl : j < c.length := (List.getElem?_eq_some_iff.1 hj).1
    have hg := mapM_some_get hcell j j (List.getElem?_range (by omega))
    rw [hj, hc] at hg
    rw [Addr.add_add] at hg
    exact hg
   ·cases hcell
  obtain ⟨xs, hx, hq⟩ := pickAll each
  have hmx : maxLen = 9223372036854775807 := by decide
  refine ⟨some a, cap, xs, by rw [hx], by omega, by omega, ⟨rfl, by omega, fun _ => ⟨a, rfl, fun j p hj => ?_⟩⟩, fun x hmem => ?_⟩
  ·obtain ⟨hj2, rfl⟩ := List.getElem?_eq_some_iff.1 hj
   exact (hq j hj2).1
  ·obtain ⟨j, hj, rfl⟩ := List.getElem_of_mem hmem
   exact (hq j hj).2
theorem br_texts {t e : TypeId} {fuel : Nat} {cs : List Value} {y : DataW H × List MemPlace} (ht : P.underlying t = some (.slice e)) (he : P.underlying e = some .string) (hc : P.cellsOf e = 1)
  (h : DataW.trod enc P W 0 sp held fuel t cs = some y) :
  ∃ A c xs, cs = [.slice A xs.length c] ∧ xs.length ≤ c ∧ Kd.string.C W A xs.length xs ∧ (∀ es rs, y.1 = .slice es rs → es = xs.map fun x => .lit (.string x.data.toList)) := by
 rcases DataW.trod_slice ht h with ⟨rfl, rfl⟩ | ⟨a, len, cap, elems, rest, n, hn, rfl, rfl, _, hl, hm, hlen, hel, _, _⟩
 ·exact ⟨none, 0, [], rfl, Nat.le_refl _, Kd.C_nil _ W, fun es rs h => by cases h⟩
 ·have each : ∀ i, i < len → ∃ x : ByteArray, W.cell? (a.add i) = some (.string x) ∧ ∀ z, elems[i]? = some z → z.1 = .lit (.string x.data.toList) := by
   intro i hi
   have hb := hel i hi
   rw [List.getElem?_eq_getElem (by omega)] at hb
   obtain ⟨c, hcell, htr⟩ := Option.bind_eq_some_iff.1 hb
   obtain ⟨s, rfl, e1, _⟩ := DataW.trod_string he htr
   refine ⟨s, ?_, fun z hz => ?_⟩
   ·unfold World.cells? at hcell
    split at hcell
    ·have hg := mapM_some_get hcell 0 0 (List.getElem?_range (by omega))
     rw [hc, Nat.mul_one] at hg
     rw [Addr.add_add, Nat.add_zero] at hg
     exact hg
    ·cases hcell
   ·rw [List.getElem?_eq_getElem (by omega)] at hz
    rw [← Option.some.inj hz, e1]
  obtain ⟨xs, hx, hq⟩ := pickAll each
  have hmx : maxLen = 9223372036854775807 := by decide
  refine ⟨some a, cap, xs, by rw [hx], by omega, ⟨rfl, by omega, fun _ => ⟨a, rfl, fun j p hj => ?_⟩⟩, fun es rs hes => ?_⟩
  ·obtain ⟨hj2, rfl⟩ := List.getElem?_eq_some_iff.1 hj
   refine ⟨[.string xs[j]], rfl, rfl, fun i u hu => ?_⟩
   match i, hu with
   | 0, hu =>
    obtain rfl := Option.some.inj hu
    have := (hq j hj2).1
    rw [show j * Kd.string.sz + 0 = j from by show j * 1 + 0 = j; omega]
    exact this
   | i + 1, hu => simp at hu
  ·simp only [DataW.slice.injEq] at hes
   rw [← hes.1]
   apply List.ext_getElem (by simp [hlen, hx])
   intro i h1 h2
   simp only [List.getElem_map]
   have hi : i < xs.length := by simpa using h2
   exact (hq i hi).2 _ (List.getElem?_eq_getElem _)
end
theorem vars_cons {H : Type} {enc : TypeId × Value → H} {P : Program} {w : World} {sp : Nat → Bool} {n : String} {ns : List String} {gs : List (DataW H)} {ps : List MemPlace} (h : DataW.TrodVars enc P w sp (n :: ns) gs ps) : ∃ d ds q, gs = d :: ds ∧ DataW.TrodVars enc P w sp ns ds q := by
 cases gs with
 | nil => exact h.elim
 | cons d ds =>
  obtain ⟨g, t, cs, fuel, p, q, _, _, _, _, hs, _⟩ := h
  exact ⟨d, ds, q, rfl, hs⟩
theorem cells9 : Tryd.prog.cellsOf 9 = 1 := by kernel_rfl
theorem gW : Tryd.prog.globalNamed "loop.example/chancery/impl.words" = some 0 := by kernel_rfl
theorem tW : (Tryd.prog.globals[0]?).map (·.type) = some 25 := by kernel_rfl
theorem laidOut : laidOutB Tryd.prog = true := by kernel_rfl
def lits : List (List UInt8) := Nm.words.map fun x => x.data.toList
def toBytes (l : List UInt8) : ByteArray := ⟨l.toArray⟩
theorem of_lits {xs : List ByteArray} (h : xs.map (fun x => x.data.toList) = lits) : xs = Nm.words := by
 have h2 := congrArg (List.map toBytes) h
 rw [List.map_map] at h2
 have e : (toBytes ∘ fun x : ByteArray => x.data.toList) = id := by funext x; rfl
 rw [e, List.map_id] at h2
 rw [h2]
 rfl
def litOf (d : DataW Unit) : List UInt8 := match d with | .lit (.string l) => l | _ => []
theorem of_laid {W : World} (h : laidMetH Tryd.prog [("loop.example/chancery/impl.words", Rows.laid_loop_example_chancery_impl_words)] W) :
  Kd.C (Kd.slice 9 Kd.string) W (some ⟨0, 0, none⟩) 1 [Nm.words] := by
 rw [MakeChecks.laidMetH_plain _ _ _ (by kernel_rfl)] at h
 obtain ⟨ps, ⟨g0, t0, cs0, f0, p0, q0, hg0, ht0, hv0, hd0, _, _⟩, _, _⟩ := h
 obtain rfl := Option.some.inj (gW.symm.trans hg0)
 obtain rfl := Option.some.inj (tW.symm.trans ht0)
 obtain ⟨A, c, xs, hcs, hl, hC, hes⟩ := br_texts Tryd.underlying25 Tryd.underlying9 cells9 hd0
 have hxs : xs = Nm.words := by
  have e := hes _ _ (show Rows.laid_loop_example_chancery_impl_words = .slice _ _ from rfl)
  have e2 := congrArg (List.map litOf) e
  rw [List.map_map] at e2
  exact of_lits (e2.symm.trans rfl)
 subst hxs
 have hcell : W.cell? ⟨0, 0, none⟩ = some (.slice A Nm.words.length c) := by
  have := World.var?_cell hg0 hv0 0
  rw [Array.eq_one_of_toList hcs] at this
  simpa using this
 refine ⟨rfl, by decide, fun _ => ⟨⟨0, 0, none⟩, rfl, fun j p hj => ?_⟩⟩
 match j, hj with
 | 0, hj =>
  obtain rfl := Option.some.inj hj
  refine ⟨[.slice A Nm.words.length c], rfl, ⟨A, c, rfl, hl, hC⟩, fun i u hu => ?_⟩
  match i, hu with
  | 0, hu =>
   obtain rfl := Option.some.inj hu
   exact hcell
  | i + 1, hu => simp at hu
 | j + 1, hj => simp at hj
theorem door_met (os : Os) (args : Array Value) : laidMetH Tryd.prog [("loop.example/chancery/impl.words", Rows.laid_loop_example_chancery_impl_words)] ((World.doorLaid Tryd.prog 400 os).forCall (fun _ _ => 0) ⟨#[], args, []⟩).memory :=
 laidMetH_of_parts3 (fuel := 8) (laidMet_of_run' 8 (by kernel_rfl) (by kernel_rfl)) (by kernel_rfl) (by kernel_rfl)
end Go.Proofs.YtoajejdicfabmaaDoor.Wr
