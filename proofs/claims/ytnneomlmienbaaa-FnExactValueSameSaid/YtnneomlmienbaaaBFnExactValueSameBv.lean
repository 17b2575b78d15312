import Derived.Test.YtnneomlmienbaaaBFnExactValueSameBr
import Derived.Test.YtnneomlmienbaaaBFnExactValueSameTv
namespace Go.Proofs.Ytnneomlmienbaaa.Br
set_option linter.unusedVariables false
set_option linter.unusedSimpArgs false
open Go Go.RowKit Go.Proofs.Ytnneomlmienbaaa.Q Go.Proofs.YtnneomlmienbaaaW.PrintWords Go.Proofs.YtnneomlmienbaaaW.PrintLast
theorem cells37 : Try.prog.cellsOf 37 = 1 := by kernel_rfl
theorem cells38 : Try.prog.cellsOf 38 = 1 := by kernel_rfl
theorem cells40 : Try.prog.cellsOf 40 = 6 := by kernel_rfl
section
variable {H : Type} {enc : TypeId × Value → H} {W : World} {sp : Nat → Bool} {held : Bool}
theorem br40 : ∀ (N fuel : Nat), fuel ≤ N → ∀ (cs : List Value) (y : DataW H × List MemPlace), DataW.trod enc Try.prog W 0 sp held fuel 40 cs = some y → ∃ x : S40, k40.K W x cs ∧ Tv.Fine N x
  | 0, fuel, hN, cs, y, h => by
    obtain rfl : fuel = 0 := by omega
    cases h
  | N + 1, fuel, hN, cs, y, h => by
    obtain ⟨xs, n, hn, _, hl, hlen, hf⟩ := DataW.trod_struct Try.underlying40 h
    rw [cells40] at hl
    match cs, hl with
    | [c0, c1, c2, c3, c4, c5], _ =>
      match xs, hlen with
      | [y0, y1, y2, y3, y4], _ =>
        have g0 : DataW.trod enc Try.prog W 0 sp held n 3 (List.take (Try.prog.cellsOf 3) [c0, c1, c2, c3, c4, c5]) = some y0 := hf 0 _ rfl
        have g1 : DataW.trod enc Try.prog W 0 sp held n 23 (List.take (Try.prog.cellsOf 23) [c1, c2, c3, c4, c5]) = some y1 := hf 1 _ rfl
        have g2 : DataW.trod enc Try.prog W 0 sp held n 9 (List.take (Try.prog.cellsOf 9) [c3, c4, c5]) = some y2 := hf 2 _ rfl
        have g3 : DataW.trod enc Try.prog W 0 sp held n 37 (List.take (Try.prog.cellsOf 37) [c4, c5]) = some y3 := hf 3 _ rfl
        have g4 : DataW.trod enc Try.prog W 0 sp held n 38 (List.take (Try.prog.cellsOf 38) [c5]) = some y4 := hf 4 _ rfl
        rw [cells3] at g0
        rw [cells9] at g2
        rw [cells23] at g1
        rw [cells37] at g3
        rw [cells38] at g4
        have hmx : maxLen = 9223372036854775807 := by decide
        obtain ⟨a, e0, _, _⟩ := DataW.trod_int Try.underlying3 g0
        obtain ⟨c, e2⟩ := br23 g1
        obtain ⟨b, e1, _, hb⟩ := DataW.trod_string Try.underlying9 g2
        obtain ⟨A, cap, zs, e3, hz, hc, hC, hP⟩ := br_slice (N := N) k40 (Tv.Fine N) Try.underlying37 (cells40.trans rfl) (fun m hm cs y hy => br40 N m hm cs y hy) (by omega) g3
        obtain ⟨B, cap', ns, e4, hz', hc', hC', hP'⟩ := br_slice (N := N) Kd.string (fun s : ByteArray => s.size ≤ 9223372036854775807) Try.underlying38 (cells9.trans rfl) (fun m hm cs y hy => by
          obtain ⟨b, e1, _, hb⟩ := DataW.trod_string Try.underlying9 hy
          exact ⟨b, e1, by omega⟩) (by omega) g4
        simp at e0 e1 e2 e3 e4
        obtain ⟨rfl, rfl⟩ := e2
        subst e0 e1 e3 e4
        exact ⟨⟨a, c, b, zs, ns⟩, k40_mk W ⟨a, c, b, zs, ns⟩ hz hC hz' hC', by show b.size ≤ _; omega, by show zs.length ≤ _; omega, hP, by show ns.length ≤ _; omega, hP'⟩
end
end Go.Proofs.Ytnneomlmienbaaa.Br
