/-
  FnDecDiv: the plain law: what the functions compute makes the statement's bool true, whatever the arguments (within the sizes that the row says).
-/
import Derived.Test.YtmoaolcioihjnaaBFnDecDivq5
import Derived.Test.YtmoaolcioihjnaaBFnDecDivDr
import Derived.Test.YtmoaolcioihjnaaBFnDecDivDv
namespace Go.Proofs.Ytmoaolcioihjnaa.Dp
set_option linter.unusedVariables false
set_option linter.unusedSimpArgs false
open Go.RowKit Go.Proofs.Ytmoaolcioihjnaa.Q Go.Proofs.Ytmoaolcioihjnaa.Th Go.Proofs.YtmoaolcioihjnaaW.PrintWords Go.Proofs.YtmoaolcioihjnaaW.PrintLast
theorem draw3 (k : Nat) (hk : 31 ≤ k) (l : List Int) (hl : Bytes l) :
    ∃ a b c d p, spec_DrawDecDiv.f k l = some (a, b, c, d, p) ∧ (-100000000 ≤ a ∧ a ≤ 100000000 ∧ -9 ≤ b ∧ b ≤ 9) ∧ (-100000000 ≤ c ∧ c ≤ 100000000 ∧ -9 ≤ d ∧ d ≤ 9) ∧ -1 ≤ p ∧ p ≤ 9 := by
  obtain ⟨k, rfl⟩ : ∃ m, k = m + 1 := ⟨k - 1, by omega⟩
  obtain ⟨m, h1, hm, hlen⟩ := opened l hl
  obtain ⟨a, b, q, h2, a1, a2, a3, a4, a5, a6⟩ := anydec (k + 1) (by omega) m 0 hm hlen (by decide) (by decide)
  obtain ⟨c, d, q2, h3, c1, c2, c3, c4, c5, c6⟩ := anydec (k + 1) (by omega) m q hm hlen a5 (by omega)
  obtain ⟨p, h4, b4⟩ := one k m q2 [0, 2, 8, 9, -1, 1] hm hlen c5 (by omega) (by simp)
  have b4 : p = 0 ∨ p = 2 ∨ p = 8 ∨ p = 9 ∨ p = -1 ∨ p = 1 := by simpa using b4
  unfold spec_DrawDecDiv.f
  rw [h1, Option.bind_some]
  dsimp only
  rw [h2, Option.bind_some]
  dsimp only
  rw [h3, Option.bind_some]
  dsimp only
  rw [h4, Option.bind_some]
  exact ⟨a, b, c, d, p, rfl, ⟨a1, a2, a3, a4⟩, ⟨c1, c2, c3, c4⟩, by omega, by omega⟩
theorem sign_val {m e v : Int} (h : val m e = v) : (m < 0 ↔ v < 0) ∧ (0 < m ↔ 0 < v) := by
  have := @val_pos m e
  rw [h] at this
  exact ⟨this.2.symm, this.1.symm⟩
theorem exp_low {q e S p : Int} (h : Ok q e) (hp : 0 ≤ p ∧ p ≤ 8) (hv : val q e = val S (-p)) : -p ≤ e := by
  apply Decidable.byContradiction
  intro hc
  have lo := ok_low h
  have h1 := val_to (by omega) (show e ≤ -p by omega) hv
  have h2 := mul10_mod S (-p - e).toNat (by omega)
  rw [← h1] at h2
  have := ok_mod h h2
  omega
theorem FnDecDiv : laws_FnDecDiv.Pure := by
  intro l _ _ hw
  refine ⟨1002, ?_⟩
  unfold laws_FnDecDiv.f
  by_cases hlen : (l.length : Int) > 1048576
  · rw [if_pos hlen]
  rw [if_neg hlen]
  obtain ⟨a, b, c, d, p, hd, ha, hc, hp1, hp2⟩ := draw3 1002 (by decide) l (bytes_of hw)
  rw [hd, Option.bind_some]
  dsimp only
  by_cases h : Ok a b ∧ Ok c d ∧ c ≠ 0 ∧ 0 ≤ p ∧ p ≤ 8
  · obtain ⟨ha, hb, h0, hp⟩ := h
    obtain ⟨⟨q1, q2, q3⟩, hr, hA⟩ := impl_div 1002 (by decide) ha hb h0 hp.1 hp.2
    obtain ⟨s, hs, hB⟩ := spec_div 1002 (by decide) ha hb h0 hp.1 hp.2
    obtain rfl := hA.uniq hB
    rw [hr, Option.bind_some, hs, Option.bind_some]
    dsimp only
    have e1 : (!(q1 == q1) || !(q2 == q2)) = false := by simp
    have e2 : (q3 != q3) = false := by simp
    rw [e1, e2, if_neg (by decide), if_neg (by decide), laws_FnDecDiv.j0]
    cases q3 with
    | false => rw [if_pos (by decide)]; simp
    | true =>
      have hq : quo (ab a) (ab c) (b - d + p) ≤ 100000000000000000 ∧ Ok q1 q2 ∧ val q1 q2 = val (sq a c (quo (ab a) (ab c) (b - d + p))) (-p) := by
        unfold DivAns at hA
        split at hA
        · rename_i hz; exact ⟨hz, hA.ok.1, hA.ok.2⟩
        · simp at hA
      obtain ⟨_, hO, hv⟩ := hq
      obtain ⟨f1, f2⟩ := div_facts ha hb h0 hp hO hv
      have lq := ok_low hO
      have lp : Ok 1 (-p) := by unfold Ok; omega
      obtain ⟨cb, cbO⟩ := chabs hb
      obtain ⟨⟨x1, x2, x3⟩, hx, hX⟩ := impl_mul 1001 (by decide) hO hb
      have xO := hX.form
      obtain ⟨⟨r1, r2, r3⟩, hr2, hR⟩ := impl_sub 1001 (by decide) ha xO
      obtain ⟨⟨u1, u2, u3⟩, hu, hU⟩ := impl_mul 1001 (by decide) cbO lp
      have el := exp_low hO hp hv
      rw [if_neg (by decide), hx, Option.bind_some]
      dsimp only
      rw [hr2, Option.bind_some, cb, Option.bind_some]
      dsimp only
      rw [wrap64_id (x := -p) (by omega) (by omega), hu, Option.bind_some, if_neg (by omega)]
      have hj : laws_FnDecDiv.j1 1001 x3 r3 u3 false a b x1 x2 r1 r2 u1 u2 = some true := by
        rw [laws_FnDecDiv.j1, if_neg (by decide)]
        cases x3 with
        | false => rfl
        | true =>
          cases r3 with
          | false => rfl
          | true =>
            cases u3 with
            | false => rfl
            | true =>
              obtain ⟨_, vx⟩ := hX.ok
              obtain ⟨rO, vr⟩ := hR.ok
              obtain ⟨uO, vu⟩ := hU.ok
              obtain ⟨cr, crO⟩ := chabs rO
              obtain ⟨cx, cxO⟩ := chabs xO
              obtain ⟨ca, caO⟩ := chabs ha
              have sx := sign_val vx
              have sr := sign_val vr
              have sa := @val_pos a b
              rw [if_pos rfl, if_pos rfl, if_pos rfl, cr, Option.bind_some]
              dsimp only
              rw [impl_cmp 1000 (by decide) crO uO, Option.bind_some, cx, ca, Option.bind_some, Option.bind_some]
              dsimp only
              rw [impl_cmp 1000 (by decide) cxO caO, Option.bind_some, ab_val, ab_val, ab_val, vr, vx, vu]
              rw [vx] at sr
              generalize val (q1 * c) (q2 + d) = x at *
              generalize val (ab c * 1) (d + -p) = U at *
              generalize val a b = va at *
              have g1 : ord (if r1 < 0 then -(va - x) else va - x) U < 0 := by
                unfold ord; rcases Int.lt_or_le va 0 with hva | hva
                · have := f2 hva; (repeat' split) <;> omega
                · have := f1 hva; (repeat' split) <;> omega
              have g2 : ord (if x1 < 0 then -x else x) (if a < 0 then -va else va) ≤ 0 := by
                unfold ord; rcases Int.lt_or_le va 0 with hva | hva
                · have := f2 hva; (repeat' split) <;> omega
                · have := f1 hva; (repeat' split) <;> omega
              rw [if_pos g1, decide_eq_true g2]
      by_cases hz : q1 = 0
      · rw [if_pos hz, hj]
      · rw [if_neg hz]
        have hQ := quo_low (x := ab a) (y := ab c) (E := b - d + p) (ab_low a) (by unfold ab; split <;> omega)
        have s1 := sign_val hv
        have s2 := @val_pos (sq a c (quo (ab a) (ab c) (b - d + p))) (-p)
        generalize quo (ab a) (ab c) (b - d + p) = Q at *
        have hsg : (decide (q1 < 0) != (decide (a < 0) != decide (c < 0))) = false := by
          have hS : q1 < 0 ↔ sq a c Q < 0 := s1.1.trans s2.2
          have hS2 : 0 < q1 ↔ 0 < sq a c Q := s1.2.trans s2.1
          unfold sq at hS hS2
          by_cases ca : a < 0 <;> by_cases cc : c < 0 <;> simp only [ca, cc, decide_true, decide_false, bne_self_eq_false, Bool.false_bne, Bool.bne_false, Bool.true_bne, Bool.not_true, Bool.not_false, if_true, Bool.false_eq_true, if_false] at hS hS2 ⊢ <;> first | exact decide_eq_false (by omega) | (rw [decide_eq_true (by omega)]; rfl) | (rw [bne_eq_false_iff_eq]; exact decide_eq_true (by omega)) | (simp; omega)
        rw [hsg, hj]
  · rw [impl_div_no 1002 (by decide) h, spec_div_no 1002 h, Option.bind_some, Option.bind_some]
    simp [laws_FnDecDiv.j0]
end Go.Proofs.Ytmoaolcioihjnaa.Dp
namespace Go.Proofs.Ytmoaolcioihjnaa.Pure
theorem FnDecDiv : Go.Proofs.Ytmoaolcioihjnaa.Q.laws_FnDecDiv.Pure := Go.Proofs.Ytmoaolcioihjnaa.Dp.FnDecDiv
end Go.Proofs.Ytmoaolcioihjnaa.Pure
