import Derived.Test.YtcgdelmlcjjhoaaBFnExactDecModDd
import Derived.Test.YtcgdelmlcjjhoaaBFnExactDecModq4
namespace Go.Proofs.Ytcgdelmlcjjhoaa.Dp
set_option linter.unusedVariables false
set_option linter.unusedSimpArgs false
open Go.RowKit Go.Proofs.Ytcgdelmlcjjhoaa.Q Go.Proofs.Ytcgdelmlcjjhoaa.Th Go.Proofs.YtcgdelmlcjjhoaaW.PrintWords Go.Proofs.YtcgdelmlcjjhoaaW.PrintLast

/-! ### the rest -/
theorem mod_rest {k : Nat} (hk : 500 ≤ k) {aM aE bM bE : Int} (ha : Ok aM aE) (hb : Ok bM bE) (hb0 : bM ≠ 0) :
    ∃ r, spec_DecMod.f (k + 1) aM aE bM bE = some r ∧ impl_DecMod.f (k + 1) aM aE bM bE = some r := by
  have l1 := ok_low ha
  have l2 := ok_low hb
  unfold spec_DecMod.f impl_DecMod.f
  rw [spec_ok, Option.bind_some, if_pos (decide_eq_true ha), spec_ok, Option.bind_some, if_pos (decide_eq_true hb), beq_false_of_ne hb0]
  simp only [spec_DecMod.j0]
  rw [if_neg (by decide)]
  obtain ⟨⟨q1, q2, q3⟩, hq, hA⟩ := l1div k (by omega) ha hb hb0 (p := 0) (by decide) (by decide)
  obtain ⟨s, hs, hB⟩ := impl_div (k + 1) (by omega) ha hb hb0 (p := 0) (by decide) (by decide)
  obtain rfl := hA.uniq hB
  rw [hq, hs, Option.bind_some, Option.bind_some]
  cases q3 with
  | false => exact ⟨_, rfl, rfl⟩
  | true =>
    have hO : Ok q1 q2 := by
      unfold DivAns at hA
      split at hA
      · exact hA.ok.1
      · simp at hA
    have l3 := ok_low hO
    have hm := mul_bound l3.2.2.1 l3.2.2.2 l2.2.2.1 l2.2.2.2
    rw [if_pos rfl, if_pos rfl]
    obtain ⟨⟨p1, p2, p3⟩, hp, hP⟩ := impl_mul (k + 1) (by omega) hb hO
    obtain ⟨t, ht, hT⟩ := spec_new k (q1 * bM) (q2 + bE) (by omega) (by omega) (by omega) (by omega) (by omega)
    rw [Int.mul_comm, Int.add_comm] at hP
    obtain rfl := hT.uniq hP
    dsimp only
    rw [wrap64_id (x := q1 * bM) (by omega) (by omega), wrap64_id (x := q2 + bE) (by omega) (by omega), ht, hp, Option.bind_some, Option.bind_some]
    cases p3 with
    | false => exact ⟨_, rfl, rfl⟩
    | true =>
      have hQ := hP.ok.1
      have l4 := ok_low hQ
      rw [if_pos rfl, if_pos rfl]
      dsimp only [spec_l1Neg.f]
      obtain ⟨u, hu, hU⟩ := impl_sub (k + 1) (by omega) ha hQ
      obtain ⟨v, hv, hV⟩ := l1add k (by omega) ha (ok_neg hQ)
      rw [val_neg, ← Int.sub_eq_add_neg] at hV
      obtain rfl := hU.uniq hV
      rw [wrap_neg (by omega) (by omega), Option.bind_some]
      dsimp only
      rw [hu, hv]
      exact ⟨_, rfl, rfl⟩
theorem spec_mod_no (k : Nat) {aM aE bM bE : Int} (h : ¬ (Ok aM aE ∧ Ok bM bE ∧ bM ≠ 0)) : spec_DecMod.f (k + 1) aM aE bM bE = some (0, 0, false) := by
  unfold spec_DecMod.f
  simp only [spec_DecMod.j0]
  rw [spec_ok, Option.bind_some]
  by_cases ha : Ok aM aE
  · rw [if_pos (decide_eq_true ha), spec_ok, Option.bind_some]
    by_cases hb : Ok bM bE
    · have h0 : bM = 0 := by apply Decidable.byContradiction; intro hc; exact h ⟨ha, hb, hc⟩
      rw [if_pos (decide_eq_true hb), h0]; rfl
    · rw [if_neg (fun z => hb (of_decide_eq_true z))]; rfl
  · rw [if_neg (fun z => ha (of_decide_eq_true z))]; rfl
theorem impl_mod_no (k : Nat) (hk : 2 ≤ k) {aM aE bM bE : Int} (h : ¬ (Ok aM aE ∧ Ok bM bE ∧ bM ≠ 0)) : impl_DecMod.f k aM aE bM bE = some (0, 0, false) := by
  unfold impl_DecMod.f
  rw [impl_div_no k hk (fun z => h ⟨z.1, z.2.1, z.2.2.1⟩)]; rfl

end Go.Proofs.Ytcgdelmlcjjhoaa.Dp
