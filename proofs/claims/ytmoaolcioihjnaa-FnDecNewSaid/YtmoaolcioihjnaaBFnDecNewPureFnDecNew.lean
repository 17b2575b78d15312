/-
  FnDecNew: the plain law: what the functions compute makes the statement's bool true, whatever the arguments (within the sizes that the row says).
-/
import Derived.Test.YtmoaolcioihjnaaBFnDecNewq2
import Derived.Test.YtmoaolcioihjnaaBFnDecNewDr
import Derived.Test.YtmoaolcioihjnaaBFnDecNewDn
namespace Go.Proofs.Ytmoaolcioihjnaa.Dp
set_option linter.unusedVariables false
set_option linter.unusedSimpArgs false
open Go.RowKit Go.Proofs.Ytmoaolcioihjnaa.Q Go.Proofs.Ytmoaolcioihjnaa.Th Go.Proofs.YtmoaolcioihjnaaW.PrintWords Go.Proofs.YtmoaolcioihjnaaW.PrintLast
theorem bne_self_ (a b : Int) : ((!(a == a) || (!(b == b))) = true) = False := by simp
theorem drawNew (k : Nat) (l : List Int) (hl : Bytes l) : ∃ m e, spec_DrawDecNew.f (k + 1) l = some (m, e) ∧ -1000000000000000000 ≤ m ∧ m ≤ 1000000000000000000 ∧ -100 ≤ e ∧ e ≤ 100 := by
  obtain ⟨b, h1, hb, hlen⟩ := opened l hl
  unfold spec_DrawDecNew.f
  obtain ⟨v, h2, b2, _⟩ := pick k b 0 256 hb hlen (by decide) (by decide)
  have b2 := b2 (by decide)
  rw [h1, Option.bind_some]
  dsimp only
  rw [h2, Option.bind_some]
  dsimp only
  rw [wrap64_id (x := v * 1000) (by omega) (by omega)]
  obtain ⟨m, h3, b3⟩ := one k b (0 + 1) [v * 1000, 99999999, 100000000, -12300, 0, 100000000000000000, 100000000000000001, 10000000000000000] hb hlen (by decide) (by decide) (by simp)
  obtain ⟨e, h4, b4⟩ := one k b (0 + 1 + 1) [0, -3, 8, -9, 32, -33, -32] hb hlen (by decide) (by decide) (by simp)
  rw [h3, Option.bind_some]
  dsimp only
  rw [h4, Option.bind_some]
  have b4 := mem7 b4
  have b3 : m = v * 1000 ∨ m = 99999999 ∨ m = 100000000 ∨ m = -12300 ∨ m = 0 ∨ m = 100000000000000000 ∨ m = 100000000000000001 ∨ m = 10000000000000000 := by simpa using b3
  exact ⟨m, e, rfl, by omega, by omega, by omega, by omega⟩
/-- noughts put on again -/
theorem back (m e : Int) (h0 : m ≠ 0) (hm : -1000000000000000000 ≤ m) (hm2 : m ≤ 1000000000000000000) (dM dE : Int) (hO : Ok dM dE) (hz : dM % 10 ≠ 0) :
    ∀ (d k : Nat) (x f : Int), d < k → f = e + d → -100 ≤ e → e ≤ 100 → d ≤ 200 → x * 10 ^ d = m → laws_FnDecNew.l0 k m e x f dM dE = some true := by
  intro d
  induction d with
  | zero =>
    intro k x f hk hf he he2 hd hx
    obtain ⟨k, rfl⟩ : ∃ m, k = m + 1 := ⟨k - 1, by omega⟩
    simp only [Int.pow_zero, Int.mul_one] at hx
    rw [laws_FnDecNew.l0, if_neg (by omega), impl_ok, Option.bind_some, if_pos (decide_eq_true hO), if_pos hx, if_neg h0, bne_iff_ne.2 (fun z => hz ((tmod10 dM).1 z))]
  | succ d ih =>
    intro k x f hk hf he he2 hd hx
    obtain ⟨k, rfl⟩ : ∃ m, k = m + 1 := ⟨k - 1, by omega⟩
    have e1 : x * 10 ^ (d + 1) = x * 10 * 10 ^ d := by rw [Int.pow_succ, Int.mul_assoc, Int.mul_comm (10 ^ d) 10]
    rw [e1] at hx
    have hb : -1000000000000000000 ≤ x * 10 ∧ x * 10 ≤ 1000000000000000000 := by
      rcases Int.le_total 0 (x * 10) with h | h
      · have := mul_p10_le (x * 10) h 0 d
        simp only [Nat.zero_add, Int.pow_zero, Int.mul_one] at this
        omega
      · have := mul_p10_le (-(x * 10)) (by omega) 0 d
        simp only [Nat.zero_add, Int.pow_zero, Int.mul_one, Int.neg_mul] at this
        omega
    rw [laws_FnDecNew.l0, if_pos (by omega), if_neg h0, wrap64_id (x := x * 10) (by omega) (by omega), wrap64_id (x := f - 1) (by omega) (by omega)]
    exact ih k (x * 10) (f - 1) (by omega) (by omega) he he2 (by omega) hx
theorem FnDecNew : laws_FnDecNew.Pure := by
  intro l _ _ hw
  refine ⟨1001, ?_⟩
  unfold laws_FnDecNew.f
  by_cases hlen : (l.length : Int) > 1048576
  · rw [if_pos hlen]
  rw [if_neg hlen]
  obtain ⟨m, e, hd, m1, m2, e1, e2⟩ := drawNew 1000 l (bytes_of hw)
  obtain ⟨⟨r1, r2, r3⟩, hr, hA⟩ := impl_dnew 1001 (by decide) m e
  obtain ⟨s, hs, hB⟩ := spec_dnew 1001 (by decide) m e
  obtain rfl := hA.uniq hB
  rw [hd, Option.bind_some, hr, Option.bind_some, hs, Option.bind_some]
  dsimp only
  cases r3 with
  | false => simp [laws_FnDecNew.j0]
  | true =>
    have hc : -100000000000000000 ≤ m ∧ m ≤ 100000000000000000 ∧ -32 ≤ e ∧ e ≤ 32 := by
      apply Decidable.byContradiction
      intro hc
      unfold NewAns at hA
      rw [if_neg hc] at hA
      simp at hA
    unfold NewAns at hA
    rw [if_pos hc] at hA
    obtain ⟨hO, hv⟩ := hA.ok
    have lo := ok_low hO
    by_cases h0 : m = 0
    · subst h0
      rw [val_zero] at hv
      have hr1 : r1 = 0 := by
        unfold val at hv
        rcases Int.mul_eq_zero.1 hv with h | h
        · exact h
        · exact absurd h (Int.ne_of_gt (p10_pos _))
      subst hr1
      have hr2 := ok_nz hO rfl
      subst hr2
      simp [laws_FnDecNew.j0, laws_FnDecNew.l0, impl_ok, hO]
    · have hz : r1 % 10 ≠ 0 := by
        intro hz
        obtain ⟨rfl, rfl⟩ := ok_mod hO hz
        rw [val_zero] at hv
        unfold val at hv
        rcases Int.mul_eq_zero.1 hv.symm with h | h
        · exact h0 h
        · exact Int.ne_of_gt (p10_pos _) h
      have hle : e ≤ r2 := by
        apply Decidable.byContradiction
        intro hc2
        have h3 := val_to (by omega) (show r2 ≤ e by omega) hv
        rw [h3] at hz
        exact hz (mul10_mod m (e - r2).toNat (by omega))
      have h3 := val_to (by omega) hle hv.symm
      have := back m e h0 m1 m2 r1 r2 hO hz (r2 - e).toNat 1000 r1 r2 (by omega) (by omega) (by omega) (by omega) (by omega) h3.symm
      simp [laws_FnDecNew.j0, this]
end Go.Proofs.Ytmoaolcioihjnaa.Dp
namespace Go.Proofs.Ytmoaolcioihjnaa.Pure
theorem FnDecNew : Go.Proofs.Ytmoaolcioihjnaa.Q.laws_FnDecNew.Pure := Go.Proofs.Ytmoaolcioihjnaa.Dp.FnDecNew
end Go.Proofs.Ytmoaolcioihjnaa.Pure
