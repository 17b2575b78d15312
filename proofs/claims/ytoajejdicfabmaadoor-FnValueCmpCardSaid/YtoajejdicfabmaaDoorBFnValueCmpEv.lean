import Derived.RowKit
namespace Go.Proofs.YtoajejdicfabmaaDoor.Evs
set_option linter.unusedVariables false
set_option linter.unusedSimpArgs false
open Go.RowKit
def Evn {α : Type} (g : Nat → Option α) (r : α) : Prop := ∃ n, ∀ k, n ≤ k → g k = some r
variable {α β : Type}
theorem Evn.pure (r : α) : Evn (fun _ => some r) r := ⟨0, fun _ _ => rfl⟩
theorem Evn.of {g g' : Nat → Option α} {r : α} (h : ∀ k, g k = g' k) (e : Evn g' r) : Evn g r := by
 obtain ⟨n, e⟩ := e
 exact ⟨n, fun k hk => (h k).trans (e k hk)⟩
theorem Evn.step {g g' : Nat → Option α} {r : α} (h : ∀ k, g (k + 1) = g' k) (e : Evn g' r) : Evn g r := by
 obtain ⟨n, e⟩ := e
 refine ⟨n + 1, fun k hk => ?_⟩
 obtain ⟨j, rfl⟩ : ∃ j, k = j + 1 := ⟨k - 1, by omega⟩
 exact (h j).trans (e j (by omega))
theorem Evn.bind {g : Nat → Option α} {f : Nat → α → Option β} {a : α} {r : β} (h : Evn g a) (e : Evn (fun k => f k a) r) : Evn (fun k => (g k).bind (f k)) r := by
 obtain ⟨n, h⟩ := h
 obtain ⟨m, e⟩ := e
 refine ⟨n + m, fun k hk => ?_⟩
 show (g k).bind (f k) = some r
 rw [h k (by omega)]
 exact e k (by omega)
theorem Evn.ite_pos {c : Prop} [Decidable c] {g g' : Nat → Option α} {r : α} (hc : c) (e : Evn g r) : Evn (fun k => if c then g k else g' k) r := Evn.of (fun _ => if_pos hc) e
theorem Evn.ite_neg {c : Prop} [Decidable c] {g g' : Nat → Option α} {r : α} (hc : ¬ c) (e : Evn g' r) : Evn (fun k => if c then g k else g' k) r := Evn.of (fun _ => if_neg hc) e
theorem Evn.at {g : Nat → Option α} {r : α} (e : Evn g r) : ∃ k, g k = some r := by
 obtain ⟨n, e⟩ := e
 exact ⟨n, e n (Nat.le_refl _)⟩
theorem w64 (n : Int) (h : -9223372036854775808 ≤ n ∧ n ≤ 9223372036854775807) : wrap64 n = n := by unfold wrap64; omega
theorem getD_nat (xs : List α) (i : Nat) (z : α) (h : i < xs.length) : xs.getD ((i : Int).toNat) z = xs[i] := by
 rw [Int.toNat_natCast, List.getD_eq_getElem?_getD, List.getElem?_eq_getElem h]
 rfl
end Go.Proofs.YtoajejdicfabmaaDoor.Evs
