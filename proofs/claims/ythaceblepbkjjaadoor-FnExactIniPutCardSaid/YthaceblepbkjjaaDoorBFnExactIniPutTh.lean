-- laid by a program of this session (wip/tools) out of the words' text that the kit's program laid: only what this claim uses; Lean checks it
import Derived.RowKit
namespace Go.Proofs.YthaceblepbkjjaaDoor.Th
set_option linter.unusedVariables false
set_option linter.unusedSimpArgs false
open Go.RowKit
def Ok (m e : Int) : Prop := (m = 0 ∧ e = 0) ∨ (-99999999 ≤ m ∧ m ≤ 99999999 ∧ -8 ≤ e ∧ e ≤ 8 ∧ m % 10 ≠ 0)
instance (m e : Int) : Decidable (Ok m e) := by unfold Ok; infer_instance
def val (m e : Int) : Int := m * 10 ^ (e + 64).toNat
def Ans (v : Int) (r : Int × Int × Bool) : Prop :=
  (r.2.2 = true ∧ Ok r.1 r.2.1 ∧ val r.1 r.2.1 = v) ∨ (r = (0, 0, false) ∧ ∀ a b, Ok a b → val a b ≠ v)
theorem Ans.yes {v a b : Int} (h : Ok a b) (e : val a b = v) : Ans v (a, b, true) := .inl ⟨rfl, h, e⟩
theorem Ans.ok {v : Int} {a b : Int} (h : Ans v (a, b, true)) : Ok a b ∧ val a b = v := by
  rcases h with ⟨_, h2, h3⟩ | ⟨h1, _⟩
  · exact ⟨h2, h3⟩
  · simp at h1
theorem Ans.no {v : Int} {a b : Int} (h : Ans v (a, b, false)) : a = 0 ∧ b = 0 ∧ ∀ p q, Ok p q → val p q ≠ v := by
  rcases h with ⟨h1, _, _⟩ | ⟨h1, h2⟩
  · simp at h1
  · simp at h1; exact ⟨h1.1, h1.2, h2⟩
theorem Ans.form {v : Int} {a b : Int} {t : Bool} (h : Ans v (a, b, t)) : Ok a b := by
  cases t with
  | true => exact h.ok.1
  | false => obtain ⟨rfl, rfl, _⟩ := h.no; exact .inl ⟨rfl, rfl⟩
theorem tmod10 (x : Int) : (Int.tmod x 10 = 0) ↔ x % 10 = 0 := by
  rw [Int.tmod_eq_emod]
  split
  · omega
  · rename_i h
    constructor
    · intro h2; have := Int.emod_lt_of_pos x (show (0 : Int) < 10 by decide); simp at h2 ⊢; omega
    · intro h2; exact absurd (.inr (Int.dvd_of_emod_eq_zero h2)) h
end Go.Proofs.YthaceblepbkjjaaDoor.Th
