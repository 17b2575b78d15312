import Derived.Test.YtoajejdicfabmaaDoorBFnValueCmpEv
import Derived.Test.YtoajejdicfabmaaDoorBFnValueCmpTh
import Derived.Test.YtoajejdicfabmaaDoorBFnValueCmpq4
namespace Go.Proofs.YtoajejdicfabmaaDoor.Tv
set_option linter.unusedVariables false
set_option linter.unusedSimpArgs false
open Go.RowKit Go.Proofs.YtoajejdicfabmaaDoor.Q Go.Proofs.YtoajejdicfabmaaDoor.Evs Go.Proofs.YtoajejdicfabmaaDoorW.PrintWords Go.Proofs.YtoajejdicfabmaaDoorW.PrintLast
def Lo : Nat → S33 → Prop
 | 0, _ => False
 | n + 1, x => x.f3.length ≤ 1048576 ∧ (∀ y, y ∈ x.f3 → Lo n y) ∧ x.f4.length ≤ 1048576 ∧ ∀ s, s ∈ x.f4 → s.size ≤ 9223372036854775807
theorem w1 (i : Nat) (h : i ≤ 1048576) : wrap64 ((i : Int) + 1) = ((i + 1 : Nat) : Int) := by
 rw [w64 _ (by omega)]; omega
abbrev sS (k : Nat) (x : S33) := spec_ValueSize.f k x.f0 x.f1.f0 x.f1.f1 x.f2 x.f3 x.f4
abbrev iS (k : Nat) (x : S33) := impl_ValueSize.f k x.f0 x.f1.f0 x.f1.f1 x.f2 x.f3 x.f4
abbrev tup (y : S33) : Int × Int × Int × ByteArray × List S33 × List ByteArray := (y.f0, y.f1.f0, y.f1.f1, y.f2, y.f3, y.f4)
theorem size_l0 (a b c : Int) (s : ByteArray) (xs : List S33) (ns : List ByteArray) (hlen : xs.length ≤ 1048576) (ih : ∀ y, y ∈ xs → ∃ r, Evn (fun k => sS k y) r ∧ Evn (fun k => iS k y) r) :
  ∀ (d i : Nat) (m : Int), i + d = xs.length → ∃ r, Evn (fun k => spec_ValueSize.l0 k m (i : Int) a b c s xs ns) r ∧ Evn (fun k => impl_ValueSize.l0 k m xs (xs.length : Int) (i : Int)) r
 | 0, i, m, hd => ⟨m, Evn.step (g' := fun _ => some m) (fun k => by rw [spec_ValueSize.l0, if_neg (by omega)]) (Evn.pure _), Evn.step (g' := fun _ => some m) (fun k => by rw [impl_ValueSize.l0, if_neg (by omega)]) (Evn.pure _)⟩
 | d + 1, i, m, hd => by
  have hi : i < xs.length := by omega
  obtain ⟨t, ht, ht'⟩ := ih xs[i] (List.getElem_mem hi)
  have key : ∀ k, spec_ValueSize.l0 (k + 1) m (i : Int) a b c s xs ns = (sS k xs[i]).bind fun t => spec_ValueSize.l0 k (wrap64 (m + t)) ((i + 1 : Nat) : Int) a b c s xs ns := by
   intro k
   rw [spec_ValueSize.l0, if_pos (by omega), if_pos (by omega), w1 i (by omega)]
   simp only [rd_T33, getD_nat _ _ _ hi]
  have key' : ∀ k, impl_ValueSize.l0 (k + 1) m xs (xs.length : Int) (i : Int) = (iS k xs[i]).bind fun t => impl_ValueSize.l0 k (wrap64 (m + t)) xs (xs.length : Int) ((i + 1 : Nat) : Int) := by
   intro k
   rw [impl_ValueSize.l0, if_pos (by omega), if_pos (by omega), if_pos (by omega), w1 i (by omega)]
   simp only [rd_T33, getD_nat _ _ _ hi]
  obtain ⟨r, hr, hr'⟩ := size_l0 a b c s xs ns hlen ih d (i + 1) (wrap64 (m + t)) (by omega)
  exact ⟨r, Evn.step key (Evn.bind ht hr), Evn.step key' (Evn.bind ht' hr')⟩
theorem size_ev : ∀ (n : Nat) (x : S33), Lo n x → ∃ r, Evn (fun k => sS k x) r ∧ Evn (fun k => iS k x) r
 | 0, _, hf => hf.elim
 | n + 1, x, ⟨hl, hk, _⟩ => by
  obtain ⟨r, hr, hr'⟩ := size_l0 x.f0 x.f1.f0 x.f1.f1 x.f2 x.f3 x.f4 hl (fun y hy => size_ev n y (hk y hy)) x.f3.length 0 1 (by omega)
  exact ⟨r, Evn.step (fun k => by show spec_ValueSize.f (k + 1) _ _ _ _ _ _ = _; rw [spec_ValueSize.f]; rfl) hr, Evn.step (fun k => by show impl_ValueSize.f (k + 1) _ _ _ _ _ _ = _; rw [impl_ValueSize.f]; rfl) hr'⟩
end Go.Proofs.YtoajejdicfabmaaDoor.Tv
