import Derived.Test.YthaceblepbkjjaaDoorBFnExactIniPutTv
import Derived.Deep.Strs
import Derived.ChangeArms
import Derived.DataReads
import Derived.DataElems
import Derived.ChangeSame
namespace Go.Proofs.YthaceblepbkjjaaDoor.Br
set_option linter.unusedVariables false
set_option linter.unusedSimpArgs false
open Go Go.RowKit Go.Proofs.YthaceblepbkjjaaDoor.Q Go.Proofs.YthaceblepbkjjaaDoorW.PrintWords Go.Proofs.YthaceblepbkjjaaDoorW.PrintLast

/-! An argument that can be read is a value of its kind. -/
theorem pickAll {α : Type} {Q : Nat → α → Prop} {n : Nat} (h : ∀ i, i < n → ∃ x, Q i x) : ∃ xs : List α, xs.length = n ∧ ∀ i (hi : i < xs.length), Q i xs[i] := by
 refine ⟨List.ofFn fun i : Fin n => (h i i.2).choose, by simp, fun i hi => ?_⟩
 have hi' : i < n := by simpa using hi
 rw [List.getElem_ofFn]
 exact (h i hi').choose_spec
section
variable {H : Type} {enc : TypeId × Value → H} {P : Program} {W : World} {sp : Nat → Bool} {held : Bool}
theorem br_slice {α : Type} (D : Kd α) (Pr : α → Prop) {t e : TypeId} {fuel N : Nat} {cs : List Value} {y : DataW H × List MemPlace} (ht : P.underlying t = some (.slice e)) (hc : P.cellsOf e = D.sz)
  (ih : ∀ m, m ≤ N → ∀ cs y, DataW.trod enc P W 0 sp held m e cs = some y → ∃ x, D.K W x cs ∧ Pr x) (hN : fuel ≤ N + 1) (h : DataW.trod enc P W 0 sp held fuel t cs = some y) :
  ∃ A c xs, cs = [.slice A xs.length c] ∧ xs.length ≤ c ∧ c ≤ 9223372036854775807 ∧ D.C W A xs.length xs ∧ ∀ x, x ∈ xs → Pr x := by
 rcases DataW.trod_slice ht h with ⟨rfl, _⟩ | ⟨a, len, cap, elems, rest, n, hn, rfl, _, _, hl, hm, hlen, hel, _, _⟩
 ·exact ⟨none, 0, [], rfl, Nat.le_refl _, by omega, Kd.C_nil D W, fun x hx => absurd hx List.not_mem_nil⟩
 ·have each : ∀ i, i < len → ∃ x : α, (∃ c : List Value, c.length = D.sz ∧ D.K W x c ∧ ∀ j u, c[j]? = some u → W.cell? (a.add (i * D.sz + j)) = some u) ∧ Pr x := by
   intro i hi
   have hb := hel i hi
   rw [List.getElem?_eq_getElem (by omega)] at hb
   obtain ⟨c, hcell, htr⟩ := Option.bind_eq_some_iff.1 hb
   obtain ⟨x, hK, hP⟩ := ih n (by omega) c _ htr
   refine ⟨x, ⟨c, D.K_len hK, hK, fun j u hj => ?_⟩, hP⟩
   unfold World.cells? at hcell
   split at hcell
   ·have hl2 := mapM_some_length hcell
    rw [List.length_range] at hl2
    have hjl : j < c.length := (List.getElem?_eq_some_iff.1 hj).1
    have hg := mapM_some_get hcell j j (List.getElem?_range (by omega))
    rw [hj, hc] at hg
    rw [Addr.add_add] at hg
    exact hg
   ·cases hcell
  obtain ⟨xs, hx, hq⟩ := pickAll each
  have hmx : maxLen = 9223372036854775807 := by decide
  refine ⟨some a, cap, xs, by rw [hx], by omega, by omega, ⟨rfl, by omega, fun _ => ⟨a, rfl, fun j p hj => ?_⟩⟩, fun x hmem => ?_⟩
  ·obtain ⟨hj2, rfl⟩ := List.getElem?_eq_some_iff.1 hj
   exact (hq j hj2).1
  ·obtain ⟨j, hj, rfl⟩ := List.getElem_of_mem hmem
   exact (hq j hj).2
end
theorem cells3 : Tryd.prog.cellsOf 3 = 1 := by kernel_rfl
theorem cells9 : Tryd.prog.cellsOf 9 = 1 := by kernel_rfl
theorem cells23 : Tryd.prog.cellsOf 23 = 2 := by kernel_rfl
section
variable {H : Type} {enc : TypeId × Value → H} {W : World} {sp : Nat → Bool} {held : Bool}
set_option maxRecDepth 100000 in
theorem br23 {fuel : Nat} {cs : List Value} {y : DataW H × List MemPlace} (h : DataW.trod enc Tryd.prog W 0 sp held fuel 23 cs = some y) : ∃ x : S23, cs = [.int .i64 x.f0, .int .i64 x.f1] := by
 obtain ⟨xs, n, _, _, hl, hlen, hf⟩ := DataW.trod_struct Tryd.underlying23 h
 rw [cells23] at hl
 match cs, hl with
 | [c0, c1], _ =>
  match xs, hlen with
  | [y0, y1], _ =>
   have g0 : DataW.trod enc Tryd.prog W 0 sp held n 3 (List.take (Tryd.prog.cellsOf 3) [c0, c1]) = some y0 := hf 0 _ rfl
   have g1 : DataW.trod enc Tryd.prog W 0 sp held n 3 (List.take (Tryd.prog.cellsOf 3) [c1]) = some y1 := hf 1 _ rfl
   rw [cells3] at g0 g1
   obtain ⟨a, e0, _, _⟩ := DataW.trod_int Tryd.underlying3 g0
   obtain ⟨b, e1, _, _⟩ := DataW.trod_int Tryd.underlying3 g1
   simp at e0 e1
   subst e0 e1
   exact ⟨⟨a, b⟩, rfl⟩
end
theorem cells24 : Tryd.prog.cellsOf 24 = 1 := by kernel_rfl
theorem cells25 : Tryd.prog.cellsOf 25 = 1 := by kernel_rfl
theorem cells27 : Tryd.prog.cellsOf 27 = 6 := by kernel_rfl
section
variable {H : Type} {enc : TypeId × Value → H} {W : World} {sp : Nat → Bool} {held : Bool}
set_option maxRecDepth 100000 in
theorem br27 : ∀ (N fuel : Nat), fuel ≤ N → ∀ (cs : List Value) (y : DataW H × List MemPlace), DataW.trod enc Tryd.prog W 0 sp held fuel 27 cs = some y → ∃ x : S27, k27.K W x cs ∧ Tv.Fine N x
 | 0, fuel, hN, cs, y, h => by
  obtain rfl : fuel = 0 := by omega
  cases h
 | N + 1, fuel, hN, cs, y, h => by
  obtain ⟨xs, n, hn, _, hl, hlen, hf⟩ := DataW.trod_struct Tryd.underlying27 h
  rw [cells27] at hl
  match cs, hl with
  | [c0, c1, c2, c3, c4, c5], _ =>
   match xs, hlen with
   | [y0, y1, y2, y3, y4], _ =>
    have g0 : DataW.trod enc Tryd.prog W 0 sp held n 3 (List.take (Tryd.prog.cellsOf 3) [c0, c1, c2, c3, c4, c5]) = some y0 := hf 0 _ rfl
    have g1 : DataW.trod enc Tryd.prog W 0 sp held n 23 (List.take (Tryd.prog.cellsOf 23) [c1, c2, c3, c4, c5]) = some y1 := hf 1 _ rfl
    have g2 : DataW.trod enc Tryd.prog W 0 sp held n 9 (List.take (Tryd.prog.cellsOf 9) [c3, c4, c5]) = some y2 := hf 2 _ rfl
    have g3 : DataW.trod enc Tryd.prog W 0 sp held n 24 (List.take (Tryd.prog.cellsOf 24) [c4, c5]) = some y3 := hf 3 _ rfl
    have g4 : DataW.trod enc Tryd.prog W 0 sp held n 25 (List.take (Tryd.prog.cellsOf 25) [c5]) = some y4 := hf 4 _ rfl
    rw [cells3] at g0
    rw [cells9] at g2
    rw [cells23] at g1
    rw [cells24] at g3
    rw [cells25] at g4
    have hmx : maxLen = 9223372036854775807 := by decide
    obtain ⟨a, e0, _, _⟩ := DataW.trod_int Tryd.underlying3 g0
    obtain ⟨c, e2⟩ := br23 g1
    obtain ⟨b, e1, _, hb⟩ := DataW.trod_string Tryd.underlying9 g2
    obtain ⟨A, cap, zs, e3, hz, hc, hC, hP⟩ := br_slice (N := N) k27 (Tv.Fine N) Tryd.underlying24 (cells27.trans rfl) (fun m hm cs y hy => br27 N m hm cs y hy) (by omega) g3
    obtain ⟨B, cap', ns, e4, hz', hc', hC', hP'⟩ := br_slice (N := N) Kd.string (fun s : ByteArray => s.size ≤ 9223372036854775807) Tryd.underlying25 (cells9.trans rfl) (fun m hm cs y hy => by
     obtain ⟨b, e1, _, hb⟩ := DataW.trod_string Tryd.underlying9 hy
     exact ⟨b, e1, by omega⟩) (by omega) g4
    simp at e0 e1 e2 e3 e4
    obtain ⟨rfl, rfl⟩ := e2
    subst e0 e1 e3 e4
    exact ⟨⟨a, c, b, zs, ns⟩, k27_mk W ⟨a, c, b, zs, ns⟩ hz hC hz' hC', by show b.size ≤ _; omega, by show zs.length ≤ _; omega, hP, by show ns.length ≤ _; omega, hP'⟩
end
end Go.Proofs.YthaceblepbkjjaaDoor.Br
