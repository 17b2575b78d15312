import Derived.Test.YtnneomlmienbaaaBFnExactValueSameTn
import Derived.Deep.Strs
import Derived.ChangeArms
import Derived.DataReads
import Derived.DataElems
import Derived.ChangeSame
namespace Go.Proofs.Ytnneomlmienbaaa.Br
set_option linter.unusedVariables false
set_option linter.unusedSimpArgs false
open Go Go.RowKit Go.Proofs.Ytnneomlmienbaaa.Q Go.Proofs.YtnneomlmienbaaaW.PrintWords Go.Proofs.YtnneomlmienbaaaW.PrintLast

/-! An argument that can be read is a value of its kind. -/
theorem pickAll {α : Type} {Q : Nat → α → Prop} {n : Nat} (h : ∀ i, i < n → ∃ x, Q i x) : ∃ xs : List α, xs.length = n ∧ ∀ i (hi : i < xs.length), Q i xs[i] := by
  refine ⟨List.ofFn fun i : Fin n => (h i i.2).choose, by simp, fun i hi => ?_⟩
  have hi' : i < n := by simpa using hi
  rw [List.getElem_ofFn]
  exact (h i hi').choose_spec
section
variable {H : Type} {enc : TypeId × Value → H} {P : Program} {W : World} {sp : Nat → Bool} {held : Bool}
theorem br_slice {α : Type} (D : Kd α) (Pr : α → Prop) {t e : TypeId} {fuel N : Nat} {cs : List Value} {y : DataW H × List MemPlace} (ht : P.underlying t = some (.slice e)) (hc : P.cellsOf e = D.sz)
    (ih : ∀ m, m ≤ N → ∀ cs y, DataW.trod enc P W 0 sp held m e cs = some y → ∃ x, D.K W x cs ∧ Pr x) (hN : fuel ≤ N + 1) (h : DataW.trod enc P W 0 sp held fuel t cs = some y) :
    ∃ A c xs, cs = [.slice A xs.length c] ∧ xs.length ≤ c ∧ c ≤ 9223372036854775807 ∧ D.C W A xs.length xs ∧ ∀ x, x ∈ xs → Pr x := by
  rcases DataW.trod_slice ht h with ⟨rfl, _⟩ | ⟨a, len, cap, elems, rest, n, hn, rfl, _, _, hl, hm, hlen, hel, _, _⟩
  · exact ⟨none, 0, [], rfl, Nat.le_refl _, by omega, Kd.C_nil D W, fun x hx => absurd hx List.not_mem_nil⟩
  · have each : ∀ i, i < len → ∃ x : α, (∃ c : List Value, c.length = D.sz ∧ D.K W x c ∧ ∀ j u, c[j]? = some u → W.cell? (a.add (i * D.sz + j)) = some u) ∧ Pr x := by
      intro i hi
      have hb := hel i hi
      rw [List.getElem?_eq_getElem (by omega)] at hb
      obtain ⟨c, hcell, htr⟩ := Option.bind_eq_some_iff.1 hb
      obtain ⟨x, hK, hP⟩ := ih n (by omega) c _ htr
      refine ⟨x, ⟨c, D.K_len hK, hK, fun j u hj => ?_⟩, hP⟩
      unfold World.cells? at hcell
      split at hcell
      · have hl2 := mapM_some_length hcell
        rw [List.length_range] at hl2
        have hjl : j < c.length := (List.getElem?_eq_some_iff.1 hj).1
        have hg := mapM_some_get hcell j j (List.getElem?_range (by omega))
        rw [hj, hc] at hg
        rw [Addr.add_add] at hg
        exact hg
      · cases hcell
    obtain ⟨xs, hx, hq⟩ := pickAll each
    have hmx : maxLen = 9223372036854775807 := by decide
    refine ⟨some a, cap, xs, by rw [hx], by omega, by omega, ⟨rfl, by omega, fun _ => ⟨a, rfl, fun j p hj => ?_⟩⟩, fun x hmem => ?_⟩
    · obtain ⟨hj2, rfl⟩ := List.getElem?_eq_some_iff.1 hj
      exact (hq j hj2).1
    · obtain ⟨j, hj, rfl⟩ := List.getElem_of_mem hmem
      exact (hq j hj).2
end
theorem cells3 : Try.prog.cellsOf 3 = 1 := by kernel_rfl
theorem cells9 : Try.prog.cellsOf 9 = 1 := by kernel_rfl
theorem cells23 : Try.prog.cellsOf 23 = 2 := by kernel_rfl
theorem cells24 : Try.prog.cellsOf 24 = 1 := by kernel_rfl
theorem cells26 : Try.prog.cellsOf 26 = 5 := by kernel_rfl
section
variable {H : Type} {enc : TypeId × Value → H} {W : World} {sp : Nat → Bool} {held : Bool}
theorem br23 {fuel : Nat} {cs : List Value} {y : DataW H × List MemPlace} (h : DataW.trod enc Try.prog W 0 sp held fuel 23 cs = some y) : ∃ x : S23, cs = [.int .i64 x.f0, .int .i64 x.f1] := by
  obtain ⟨xs, n, _, _, hl, hlen, hf⟩ := DataW.trod_struct Try.underlying23 h
  rw [cells23] at hl
  match cs, hl with
  | [c0, c1], _ =>
    match xs, hlen with
    | [y0, y1], _ =>
      have g0 : DataW.trod enc Try.prog W 0 sp held n 3 (List.take (Try.prog.cellsOf 3) [c0, c1]) = some y0 := hf 0 _ rfl
      have g1 : DataW.trod enc Try.prog W 0 sp held n 3 (List.take (Try.prog.cellsOf 3) [c1]) = some y1 := hf 1 _ rfl
      rw [cells3] at g0 g1
      obtain ⟨a, e0, _, _⟩ := DataW.trod_int Try.underlying3 g0
      obtain ⟨b, e1, _, _⟩ := DataW.trod_int Try.underlying3 g1
      simp at e0 e1
      subst e0 e1
      exact ⟨⟨a, b⟩, rfl⟩
theorem br26 : ∀ (N fuel : Nat), fuel ≤ N → ∀ (cs : List Value) (y : DataW H × List MemPlace), DataW.trod enc Try.prog W 0 sp held fuel 26 cs = some y → ∃ x : S26, k26.K W x cs ∧ Tn.Fine N x
  | 0, fuel, hN, cs, y, h => by
    obtain rfl : fuel = 0 := by omega
    cases h
  | N + 1, fuel, hN, cs, y, h => by
    obtain ⟨xs, n, hn, _, hl, hlen, hf⟩ := DataW.trod_struct Try.underlying26 h
    rw [cells26] at hl
    match cs, hl with
    | [c0, c1, c2, c3, c4], _ =>
      match xs, hlen with
      | [y0, y1, y2, y3], _ =>
        have g0 : DataW.trod enc Try.prog W 0 sp held n 3 (List.take (Try.prog.cellsOf 3) [c0, c1, c2, c3, c4]) = some y0 := hf 0 _ rfl
        have g1 : DataW.trod enc Try.prog W 0 sp held n 9 (List.take (Try.prog.cellsOf 9) [c1, c2, c3, c4]) = some y1 := hf 1 _ rfl
        have g2 : DataW.trod enc Try.prog W 0 sp held n 23 (List.take (Try.prog.cellsOf 23) [c2, c3, c4]) = some y2 := hf 2 _ rfl
        have g3 : DataW.trod enc Try.prog W 0 sp held n 24 (List.take (Try.prog.cellsOf 24) [c4]) = some y3 := hf 3 _ rfl
        rw [cells3] at g0
        rw [cells9] at g1
        rw [cells23] at g2
        rw [cells24] at g3
        obtain ⟨a, e0, _, _⟩ := DataW.trod_int Try.underlying3 g0
        obtain ⟨b, e1, _, hb⟩ := DataW.trod_string Try.underlying9 g1
        obtain ⟨c, e2⟩ := br23 g2
        obtain ⟨A, cap, zs, e3, hz, hc, hC, hP⟩ := br_slice (N := N) k26 (Tn.Fine N) Try.underlying24 (cells26.trans rfl) (fun m hm cs y hy => br26 N m hm cs y hy) (by omega) g3
        simp at e0 e1 e2 e3
        obtain ⟨rfl, rfl⟩ := e2
        subst e0 e1 e3
        have hmx : maxLen = 9223372036854775807 := by decide
        exact ⟨⟨a, b, c, zs⟩, k26_mk W ⟨a, b, c, zs⟩ hz hC, by show b.size ≤ _; omega, by show zs.length ≤ _; omega, hP⟩
end
end Go.Proofs.Ytnneomlmienbaaa.Br
