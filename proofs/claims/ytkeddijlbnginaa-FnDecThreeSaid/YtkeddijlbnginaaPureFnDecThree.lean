/-
  FnDecThree: the plain law: what the functions compute makes the statement's bool true, whatever the arguments (within the sizes that the row says).
-/
import Derived.Test.YtkeddijlbnginaaQ3
import Derived.Test.YtkeddijlbnginaaDr
namespace Go.Proofs.Ytkeddijlbnginaa.Dp
set_option linter.unusedVariables false
set_option linter.unusedSimpArgs false
open Go.RowKit Go.Proofs.Ytkeddijlbnginaa.Q Go.Proofs.Ytkeddijlbnginaa.Th Go.Proofs.YtkeddijlbnginaaW.PrintWords Go.Proofs.YtkeddijlbnginaaW.PrintLast
theorem val_mul3 (a b c d : Int) (hb : -64 ≤ b) (hd : -64 ≤ d) (hbd : -64 ≤ b + d) : val (a * c) (b + d) * 10 ^ 64 = val a b * val c d := by
  unfold val
  rw [Int.mul_assoc, ← Int.pow_add, show (b + d + 64).toNat + 64 = (b + 64).toNat + (d + 64).toNat by omega, Int.pow_add]
  generalize (10 : Int) ^ (b + 64).toNat = x
  generalize (10 : Int) ^ (d + 64).toNat = y
  grind
theorem dist {aM aE bM bE rM rE cM cE : Int} (ha : Ok aM aE) (hb : Ok bM bE) (hr : Ok rM rE) (hc : Ok cM cE) (h : val rM rE = val aM aE + val bM bE) :
    val (rM * cM) (rE + cE) = val (aM * cM) (aE + cE) + val (bM * cM) (bE + cE) := by
  have e1 := val_mul3 rM rE cM cE (by unfold Ok at *; omega) (by unfold Ok at *; omega) (by unfold Ok at *; omega)
  have e2 := val_mul3 aM aE cM cE (by unfold Ok at *; omega) (by unfold Ok at *; omega) (by unfold Ok at *; omega)
  have e3 := val_mul3 bM bE cM cE (by unfold Ok at *; omega) (by unfold Ok at *; omega) (by unfold Ok at *; omega)
  have hp := p10_pos 64
  refine Int.eq_of_mul_eq_mul_right (Int.ne_of_gt hp) ?_
  rw [Int.add_mul, e1, e2, e3, h, Int.add_mul]
theorem end2 (k : Nat) (hk : 200 ≤ k) {aM aE bM bE rM rE : Int} (cM cE : Int) (ha : Ok aM aE) (hb : Ok bM bE) (hr : Ok rM rE) (h : val rM rE = val aM aE + val bM bE) :
    laws_FnDecThree.j2 (k + 1) false aM aE bM bE cM cE rM rE = some true := by
  rw [laws_FnDecThree.j2, if_neg (by decide)]
  by_cases hc : Ok cM cE
  · obtain ⟨⟨p1, p2, p3⟩, hp, hP⟩ := impl_mul k (by omega) hr hc
    obtain ⟨⟨q1, q2, q3⟩, hq, hQ⟩ := impl_mul k (by omega) ha hc
    obtain ⟨⟨s1, s2, s3⟩, hs, hS⟩ := impl_mul k (by omega) hb hc
    obtain ⟨⟨t1, t2, t3⟩, ht, hT⟩ := impl_add k hk hQ.form hS.form
    rw [hp, hq, hs, Option.bind_some, Option.bind_some, Option.bind_some]
    dsimp only
    rw [ht, Option.bind_some]
    dsimp only
    cases p3 with
    | false => rw [if_neg (by decide)]
    | true =>
      cases q3 with
      | false => rw [if_pos rfl, if_neg (by decide)]
      | true =>
        cases s3 with
        | false => rw [if_pos rfl, if_pos rfl, if_neg (by decide)]
        | true =>
          cases t3 with
          | false => rw [if_pos rfl, if_pos rfl, if_pos rfl, if_neg (by decide)]
          | true =>
            rw [if_pos rfl, if_pos rfl, if_pos rfl, if_pos rfl]
            rw [hQ.ok.2, hS.ok.2, ← dist ha hb hr hc h] at hT
            have e := hP.uniq hT
            simp only [Prod.mk.injEq] at e
            rw [e.1, e.2.1]
            simp
  · rw [impl_mul_no k (fun z => hc z.2), impl_mul_no k (fun z => hc z.2), impl_mul_no k (fun z => hc z.2)]
    rw [Option.bind_some, Option.bind_some, Option.bind_some]
    dsimp only
    obtain ⟨t, ht, _⟩ := impl_add k hk (aM := 0) (aE := 0) (bM := 0) (bE := 0) (.inl ⟨rfl, rfl⟩) (.inl ⟨rfl, rfl⟩)
    rw [ht, Option.bind_some, if_neg (by decide)]
theorem end1 (k : Nat) (hk : 300 ≤ k) {aM aE bM bE rM rE : Int} (cM cE x y : Int) (ha : Ok aM aE) (hb : Ok bM bE) (hr : Ok rM rE) (h : val rM rE = val aM aE + val bM bE) :
    laws_FnDecThree.j1 (k + 1) true true false aM aE bM bE cM cE rM rE x y = some true := by
  obtain ⟨j, rfl⟩ : ∃ j, k = j + 1 := ⟨k - 1, by omega⟩
  rw [laws_FnDecThree.j1, if_neg (by decide)]
  have last := end2 j (by omega) cM cE ha hb hr h
  by_cases hc : Ok cM cE
  · obtain ⟨⟨s1, s2, s3⟩, hs, hS⟩ := impl_add (j + 1) (by omega) hb hc
    obtain ⟨⟨u1, u2, u3⟩, hu, hU⟩ := impl_add (j + 1) (by omega) hr hc
    obtain ⟨⟨v1, v2, v3⟩, hv, hV⟩ := impl_add (j + 1) (by omega) ha hS.form
    rw [hs, hu, Option.bind_some, Option.bind_some]
    dsimp only
    rw [hv, Option.bind_some]
    dsimp only
    cases s3 with
    | false => rw [if_neg (by decide)]; exact last
    | true =>
      cases u3 with
      | false => rw [if_pos rfl, if_neg (by decide)]; exact last
      | true =>
        cases v3 with
        | false => rw [if_pos rfl, if_pos rfl, if_neg (by decide)]; exact last
        | true =>
          rw [if_pos rfl, if_pos rfl, if_pos rfl]
          rw [hS.ok.2, ← Int.add_assoc, ← h] at hV
          have e := hU.uniq hV
          simp only [Prod.mk.injEq] at e
          rw [e.1, e.2.1, show (!(v1 == v1) || (!(v2 == v2))) = false by simp]
          exact last
  · rw [impl_add_no (j + 1) (by omega) (fun z => hc z.2), impl_add_no (j + 1) (by omega) (fun z => hc z.2), Option.bind_some, Option.bind_some]
    dsimp only
    obtain ⟨t, ht, _⟩ := impl_add (j + 1) (by omega) (bM := 0) (bE := 0) ha (.inl ⟨rfl, rfl⟩)
    rw [ht, Option.bind_some, if_neg (by decide)]
    exact last
theorem FnDecThree : laws_FnDecThree.Pure := by
  intro l m _ _ hw _ _ hw2
  refine ⟨1001, ?_⟩
  unfold laws_FnDecThree.f
  by_cases hlen : (l.length : Int) > 1048576
  · rw [if_pos hlen, laws_FnDecThree.j0, if_pos rfl]
  rw [if_neg hlen]
  by_cases hlen2 : (m.length : Int) > 1048576
  · rw [decide_eq_true hlen2, laws_FnDecThree.j0, if_pos rfl]
  rw [decide_eq_false hlen2, laws_FnDecThree.j0, if_neg (by decide)]
  obtain ⟨a, b, c, d, hd, ha, hc⟩ := draw2 1000 (by decide) l (bytes_of hw)
  obtain ⟨p, q, p2, q2, hd2, hp, hp2⟩ := draw2 1000 (by decide) m (bytes_of hw2)
  rw [hd, Option.bind_some]
  unfold spec_DrawDecMul.f
  rw [hd2, Option.bind_some, Option.bind_some]
  dsimp only
  by_cases h : Ok a b ∧ Ok c d
  · obtain ⟨⟨r1, r2, r3⟩, hr, hA⟩ := impl_add 1000 (by decide) h.1 h.2
    obtain ⟨t, ht, hC⟩ := spec_add 1000 (by decide) h.1 h.2
    obtain rfl := hA.uniq hC
    rw [hr, ht, Option.bind_some, Option.bind_some]
    dsimp only
    rw [if_neg (by simp), if_neg (by simp)]
    cases r3 with
    | false => rw [laws_FnDecThree.j1, if_pos (by decide), if_pos (by simp)]; rfl
    | true => exact end1 999 (by decide) p q r1 r2 h.1 h.2 hA.ok.1 hA.ok.2
  · rw [impl_add_no 1000 (by decide) h, spec_add_no 1000 h, Option.bind_some, Option.bind_some]
    dsimp only
    rw [if_neg (by decide), if_neg (by decide), laws_FnDecThree.j1, if_pos (by decide), if_pos (by decide)]
    rfl
end Go.Proofs.Ytkeddijlbnginaa.Dp
namespace Go.Proofs.Ytkeddijlbnginaa.Pure
theorem FnDecThree : Go.Proofs.Ytkeddijlbnginaa.Q.laws_FnDecThree.Pure := Go.Proofs.Ytkeddijlbnginaa.Dp.FnDecThree
end Go.Proofs.Ytkeddijlbnginaa.Pure
