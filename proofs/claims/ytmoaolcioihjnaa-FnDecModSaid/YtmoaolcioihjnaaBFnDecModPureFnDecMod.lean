/-
  FnDecMod: the plain law: what the functions compute makes the statement's bool true, whatever the arguments (within the sizes that the row says).
-/
import Derived.Test.YtmoaolcioihjnaaBFnDecModq5
import Derived.Test.YtmoaolcioihjnaaBFnDecModDr
import Derived.Test.YtmoaolcioihjnaaBFnDecModDv
import Derived.Test.YtmoaolcioihjnaaBFnDecModDm
namespace Go.Proofs.Ytmoaolcioihjnaa.Dp
set_option linter.unusedVariables false
set_option linter.unusedSimpArgs false
open Go.RowKit Go.Proofs.Ytmoaolcioihjnaa.Q Go.Proofs.Ytmoaolcioihjnaa.Th Go.Proofs.YtmoaolcioihjnaaW.PrintWords Go.Proofs.YtmoaolcioihjnaaW.PrintLast
theorem sign_val {m e v : Int} (h : val m e = v) : (m < 0 ↔ v < 0) ∧ (0 < m ↔ 0 < v) := by
  have := @val_pos m e
  rw [h] at this
  exact ⟨this.2.symm, this.1.symm⟩
/-- what DecMod tells, where it tells something -/
theorem mod_is {k : Nat} (hk : 500 ≤ k) {aM aE bM bE m1 m2 : Int} (ha : Ok aM aE) (hb : Ok bM bE) (hb0 : bM ≠ 0) (h : impl_DecMod.f k aM aE bM bE = some (m1, m2, true)) :
    Ok m1 m2 ∧ (0 ≤ val aM aE → 0 ≤ val m1 m2 ∧ val m1 m2 < val (ab bM) bE) ∧ (val aM aE < 0 → val m1 m2 ≤ 0 ∧ -(val m1 m2) < val (ab bM) bE) := by
  unfold impl_DecMod.f at h
  obtain ⟨⟨q1, q2, q3⟩, hq, hA⟩ := impl_div k hk ha hb hb0 (p := 0) (by decide) (by decide)
  rw [hq, Option.bind_some] at h
  cases q3 with
  | false => simp at h
  | true =>
    have hO : Ok q1 q2 ∧ val q1 q2 = val (sq aM bM (quo (ab aM) (ab bM) (aE - bE + 0))) (-0) := by
      unfold DivAns at hA
      split at hA
      · exact ⟨hA.ok.1, hA.ok.2⟩
      · simp at hA
    obtain ⟨f1, f2⟩ := div_facts ha hb hb0 (p := 0) (by decide) hO.1 hO.2
    obtain ⟨⟨p1, p2, p3⟩, hp, hP⟩ := impl_mul k (by omega) hb hO.1
    dsimp only at h
    rw [if_pos rfl, hp, Option.bind_some] at h
    cases p3 with
    | false => simp at h
    | true =>
      obtain ⟨pO, vp⟩ := hP.ok
      obtain ⟨⟨r1, r2, r3⟩, hr, hR⟩ := impl_sub k (by omega) ha pO
      dsimp only at h
      rw [if_pos rfl, hr, Option.bind_some] at h
      simp only [Option.some.injEq, Prod.mk.injEq] at h
      obtain ⟨rfl, rfl, rfl⟩ := h
      obtain ⟨rO, vr⟩ := hR.ok
      refine ⟨rO, ?_⟩
      rw [vr, vp, Int.mul_comm bM q1, Int.add_comm bE q2]
      rw [Int.mul_one, show bE + -0 = bE by omega] at f1 f2
      exact ⟨fun hz => by have := f1 hz; omega, fun hz => by have := f2 hz; omega⟩
/-- what is less than the divisor is its own rest -/
theorem mod_self {k : Nat} (hk : 500 ≤ k) {aM aE bM bE : Int} (ha : Ok aM aE) (hb : Ok bM bE) (hb0 : bM ≠ 0) (hlt : val (ab aM) aE < val (ab bM) bE) :
    impl_DecMod.f k aM aE bM bE = some (aM, aE, true) := by
  have la := ok_low ha
  have lb := ok_low hb
  have hB : 0 < ab bM := by unfold ab; split <;> omega
  have hA' := ab_low aM
  have hQ := quo_low (E := aE - bE + 0) hA' hB
  have hQ0 : quo (ab aM) (ab bM) (aE - bE + 0) = 0 := by
    obtain ⟨k1, _⟩ := quo_bounds hA' hB aE bE 0 ⟨la.1, la.2.1⟩ ⟨lb.1, lb.2.1⟩ (by decide)
    have hvB : 0 ≤ val (ab bM) bE := Int.mul_nonneg (Int.le_of_lt hB) (Int.le_of_lt (p10_pos _))
    rw [show (64 - (0 : Int)).toNat = 64 by rfl] at k1
    have k3 := Int.le_of_mul_le_mul_right k1 (p10_pos 64)
    apply Decidable.byContradiction
    intro hc
    have : val (ab bM) bE * 1 ≤ val (ab bM) bE * quo (ab aM) (ab bM) (aE - bE + 0) := Int.mul_le_mul_of_nonneg_left (by omega) hvB
    rw [Int.mul_comm (val (ab bM) bE) (quo _ _ _)] at this
    omega
  unfold impl_DecMod.f
  obtain ⟨q, hq, hA⟩ := impl_div k hk ha hb hb0 (p := 0) (by decide) (by decide)
  unfold DivAns at hA
  rw [hQ0, if_pos (by decide)] at hA
  have hs0 : sq aM bM 0 = 0 := by unfold sq; split <;> rfl
  rw [hs0, val_zero] at hA
  obtain rfl := hA.uniq (.yes (.inl ⟨rfl, rfl⟩) (val_zero 0))
  have z0 : Ok 0 0 := .inl ⟨rfl, rfl⟩
  obtain ⟨p, hp, hP⟩ := impl_mul k (by omega) hb z0
  rw [Int.mul_zero, val_zero] at hP
  obtain rfl := hP.uniq (.yes z0 (val_zero 0))
  obtain ⟨r, hr, hR⟩ := impl_sub k (by omega) ha z0
  rw [val_zero, Int.sub_zero] at hR
  obtain rfl := hR.uniq (.yes ha rfl)
  rw [hq, Option.bind_some]
  dsimp only
  rw [if_pos rfl, hp, Option.bind_some]
  dsimp only
  rw [if_pos rfl, hr]; rfl
theorem FnDecMod : laws_FnDecMod.Pure := by
  intro l _ _ hw
  refine ⟨1002, ?_⟩
  unfold laws_FnDecMod.f
  by_cases hlen : (l.length : Int) > 1048576
  · rw [if_pos hlen]
  rw [if_neg hlen]
  obtain ⟨a, b, c, d, hd, ha, hc⟩ := draw2 1002 (by decide) l (bytes_of hw)
  unfold spec_DrawDecMod.f
  rw [hd, Option.bind_some, Option.bind_some]
  dsimp only
  by_cases h : Ok a b ∧ Ok c d ∧ c ≠ 0
  · obtain ⟨ha, hb, h0⟩ := h
    obtain ⟨⟨m1, m2, m3⟩, h1, h2⟩ := mod_rest (k := 1001) (by decide) ha hb h0
    rw [h2, Option.bind_some, h1, Option.bind_some]
    dsimp only
    have e1 : (!(m1 == m1) || !(m2 == m2)) = false := by simp
    have e2 : (m3 != m3) = false := by simp
    rw [e1, e2, if_neg (by decide), if_neg (by decide), laws_FnDecMod.j0]
    cases m3 with
    | false => rw [if_pos (by decide)]; simp
    | true =>
      obtain ⟨mO, g1, g2⟩ := mod_is (by decide) ha hb h0 h2
      obtain ⟨cm, cmO⟩ := chabs mO
      obtain ⟨cb, cbO⟩ := chabs hb
      have sm := @val_pos m1 m2
      have sa := @val_pos a b
      have hlt : val (ab m1) m2 < val (ab c) d := by
        rw [ab_val]
        rcases Int.lt_or_le (val a b) 0 with hva | hva
        · have := g2 hva; split <;> omega
        · have := g1 hva; split <;> omega
      rw [if_neg (by decide), mod_self (by decide) mO hb h0 hlt, Option.bind_some, cm, Option.bind_some, cb, Option.bind_some]
      dsimp only
      rw [impl_cmp 1001 (by decide) cmO cbO, Option.bind_some, if_pos (by unfold ord; rw [if_pos hlt]; decide)]
      have e3 : (m1 == m1 && m2 == m2) = true := by simp
      by_cases hz : m1 = 0
      · rw [if_pos hz, if_pos rfl, e3]
      · rw [if_neg hz, if_pos, if_pos rfl, e3]
        rw [beq_iff_eq, decide_eq_decide, ← sm.2, ← sa.2]
        rcases Int.lt_or_le (val a b) 0 with hva | hva
        · have := g2 hva
          have hnz : val m1 m2 ≠ 0 := fun z => by have := sm.1; have := sm.2; omega
          omega
        · have := g1 hva; omega
  · rw [impl_mod_no 1002 (by decide) h, spec_mod_no 1001 h, Option.bind_some, Option.bind_some]
    simp [laws_FnDecMod.j0]
end Go.Proofs.Ytmoaolcioihjnaa.Dp
namespace Go.Proofs.Ytmoaolcioihjnaa.Pure
theorem FnDecMod : Go.Proofs.Ytmoaolcioihjnaa.Q.laws_FnDecMod.Pure := Go.Proofs.Ytmoaolcioihjnaa.Dp.FnDecMod
end Go.Proofs.Ytmoaolcioihjnaa.Pure
