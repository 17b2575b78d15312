import Derived.Test.YtmoaolcioihjnaaBFnDecModDd
import Derived.Test.YtmoaolcioihjnaaBFnDecModDq
import Derived.Test.YtmoaolcioihjnaaBFnDecModq5
namespace Go.Proofs.Ytmoaolcioihjnaa.Dp
set_option linter.unusedVariables false
set_option linter.unusedSimpArgs false
open Go.RowKit Go.Proofs.Ytmoaolcioihjnaa.Q Go.Proofs.Ytmoaolcioihjnaa.Th Go.Proofs.YtmoaolcioihjnaaW.PrintWords Go.Proofs.YtmoaolcioihjnaaW.PrintLast

/-! ### what a quotient is -/
theorem ab_val (m e : Int) : val (ab m) e = if m < 0 then - val m e else val m e := by
  unfold ab; split
  · rw [val_neg]
  · rfl
theorem chabs {m e : Int} (h : Ok m e) : laws_chAbs.f m e = some (ab m, e) ∧ Ok (ab m) e := by
  have := ok_low h
  unfold laws_chAbs.f ab
  split
  · rw [wrap64_id (by omega) (by omega)]; exact ⟨rfl, ok_neg h⟩
  · exact ⟨rfl, h⟩
theorem val_mul (a b c d : Int) (hb : -64 ≤ b) (hd : -64 ≤ d) (hbd : -64 ≤ b + d) : val (a * c) (b + d) * 10 ^ 64 = val a b * val c d := by
  unfold val
  rw [Int.mul_assoc, ← Int.pow_add, show (b + d + 64).toNat + 64 = (b + 64).toNat + (d + 64).toNat by omega, Int.pow_add]
  generalize (10 : Int) ^ (b + 64).toNat = x
  generalize (10 : Int) ^ (d + 64).toNat = y
  grind
theorem quo_bounds {A B : Int} (hA : 0 ≤ A) (hB : 0 < B) (aE bE p : Int) (ha : -8 ≤ aE ∧ aE ≤ 8) (hb : -8 ≤ bE ∧ bE ≤ 8) (hp : 0 ≤ p ∧ p ≤ 8) :
    quo A B (aE - bE + p) * val B bE * 10 ^ (64 - p).toNat ≤ val A aE * 10 ^ 64 ∧ val A aE * 10 ^ 64 < (quo A B (aE - bE + p) + 1) * val B bE * 10 ^ (64 - p).toNat := by
  unfold val
  by_cases hE : 0 ≤ aE - bE + p
  · have e1 : quo A B (aE - bE + p) = A * 10 ^ (aE - bE + p).toNat / B := by unfold quo; rw [if_pos hE]
    rw [e1]
    have h1 := Int.ediv_mul_le (A * 10 ^ (aE - bE + p).toNat) (Int.ne_of_gt hB)
    have h2 := Int.lt_ediv_add_one_mul_self (A * 10 ^ (aE - bE + p).toNat) hB
    generalize A * 10 ^ (aE - bE + p).toNat / B = q at *
    have e2 : A * 10 ^ (aE + 64).toNat * 10 ^ 64 = A * 10 ^ (aE - bE + p).toNat * (10 ^ (bE + 64).toNat * 10 ^ (64 - p).toNat) := by
      rw [Int.mul_assoc, Int.mul_assoc, ← Int.pow_add, ← Int.pow_add, ← Int.pow_add]
      congr 2; omega
    rw [e2]
    have hy : (0 : Int) < 10 ^ (bE + 64).toNat * 10 ^ (64 - p).toNat := Int.mul_pos (p10_pos _) (p10_pos _)
    have e3 : q * (B * 10 ^ (bE + 64).toNat) * 10 ^ (64 - p).toNat = q * B * (10 ^ (bE + 64).toNat * 10 ^ (64 - p).toNat) := by grind
    have e4 : (q + 1) * (B * 10 ^ (bE + 64).toNat) * 10 ^ (64 - p).toNat = (q + 1) * B * (10 ^ (bE + 64).toNat * 10 ^ (64 - p).toNat) := by grind
    rw [e3, e4]
    exact ⟨Int.mul_le_mul_of_nonneg_right h1 (Int.le_of_lt hy), Int.mul_lt_mul_of_pos_right h2 hy⟩
  · have e1 : quo A B (aE - bE + p) = A / (B * 10 ^ (-(aE - bE + p)).toNat) := by unfold quo; rw [if_neg hE]
    rw [e1]
    have hC : 0 < B * 10 ^ (-(aE - bE + p)).toNat := Int.mul_pos hB (p10_pos _)
    have h1 := Int.ediv_mul_le A (Int.ne_of_gt hC)
    have h2 := Int.lt_ediv_add_one_mul_self A hC
    generalize A / (B * 10 ^ (-(aE - bE + p)).toNat) = q at *
    have e2 : A * 10 ^ (aE + 64).toNat * 10 ^ 64 = A * 10 ^ (aE + 128).toNat := by
      rw [Int.mul_assoc, ← Int.pow_add]; congr 2; omega
    have e5 : (10 : Int) ^ (bE + 64).toNat * 10 ^ (64 - p).toNat = 10 ^ (-(aE - bE + p)).toNat * 10 ^ (aE + 128).toNat := by
      rw [← Int.pow_add, ← Int.pow_add]; congr 1; omega
    rw [e2]
    have e3 : q * (B * 10 ^ (bE + 64).toNat) * 10 ^ (64 - p).toNat = q * (B * 10 ^ (-(aE - bE + p)).toNat) * 10 ^ (aE + 128).toNat := by grind
    have e4 : (q + 1) * (B * 10 ^ (bE + 64).toNat) * 10 ^ (64 - p).toNat = (q + 1) * (B * 10 ^ (-(aE - bE + p)).toNat) * 10 ^ (aE + 128).toNat := by grind
    rw [e3, e4]
    exact ⟨Int.mul_le_mul_of_nonneg_right h1 (Int.le_of_lt (p10_pos _)), Int.mul_lt_mul_of_pos_right h2 (p10_pos _)⟩
/-- a quotient of two numbers and what is made of it: the product lies between 0 and the number, less than one divisor at the last place away -/
theorem div_facts {aM aE bM bE p : Int} (ha : Ok aM aE) (hb : Ok bM bE) (h0 : bM ≠ 0) (hp : 0 ≤ p ∧ p ≤ 8) {qM qE : Int} (hq : Ok qM qE)
    (hv : val qM qE = val (sq aM bM (quo (ab aM) (ab bM) (aE - bE + p))) (-p)) :
    let x := val (qM * bM) (qE + bE)
    (0 ≤ val aM aE → 0 ≤ x ∧ x ≤ val aM aE ∧ val aM aE - x < val (ab bM * 1) (bE + -p)) ∧ (val aM aE < 0 → x ≤ 0 ∧ val aM aE ≤ x ∧ x - val aM aE < val (ab bM * 1) (bE + -p)) := by
  intro x
  have la := ok_low ha
  have lb := ok_low hb
  have lq := ok_low hq
  have hB : 0 < ab bM := by unfold ab; split <;> omega
  have hA := ab_low aM
  obtain ⟨k1, k2⟩ := quo_bounds hA hB aE bE p ⟨la.1, la.2.1⟩ ⟨lb.1, lb.2.1⟩ hp
  have hQ := quo_low (E := aE - bE + p) hA hB
  have hx : x * 10 ^ 64 = val qM qE * val bM bE := val_mul qM qE bM bE (by omega) (by omega) (by omega)
  have hu : val (ab bM * 1) (bE + -p) * 10 ^ 64 = val (ab bM) bE * val 1 (-p) := val_mul _ _ _ _ (by omega) (by omega) (by omega)
  have h1p : val 1 (-p) = 10 ^ (64 - p).toNat := by unfold val; rw [Int.one_mul, show (-p + 64).toNat = (64 - p).toNat by omega]
  generalize quo (ab aM) (ab bM) (aE - bE + p) = Q at *
  have hq2 : val qM qE = sq aM bM Q * 10 ^ (64 - p).toNat := by
    rw [hv]; unfold val; rw [show (-p + 64).toNat = (64 - p).toNat by omega]
  rw [h1p] at hu
  rw [hq2] at hx
  generalize val (ab bM * 1) (bE + -p) = U at *
  have hs := @val_pos aM aE
  have hsb := @val_pos bM bE
  have eA := ab_val aM aE
  have eB := ab_val bM bE
  have ht : (0 : Int) < 10 ^ (64 - p).toNat := p10_pos _
  have hT : (0 : Int) < 10 ^ 64 := p10_pos _
  generalize (10 : Int) ^ (64 - p).toNat = t at *
  generalize (10 : Int) ^ 64 = T at *
  generalize val (ab aM) aE = vA at *
  generalize val (ab bM) bE = vB at *
  generalize val aM aE = va at *
  generalize val bM bE = vb at *
  have hvB : 0 < vB := by
    rw [eB]; split <;> omega
  have kk : (Q + 1) * vB * t = Q * vB * t + vB * t := by grind
  rw [kk] at k2
  have h3 : 0 ≤ Q * vB * t := Int.mul_nonneg (Int.mul_nonneg hQ (Int.le_of_lt hvB)) (Int.le_of_lt ht)
  -- the product, with the number's sign
  have key : (0 ≤ va → x * T = Q * vB * t) ∧ (va < 0 → x * T = -(Q * vB * t)) := by
    unfold sq at hx
    constructor
    · intro hva
      have hn : ¬ aM < 0 := fun z => by have := hs.2.2 z; omega
      by_cases c : bM < 0
      · rw [if_pos c] at eB
        simp only [hn, c, decide_true, decide_false, Bool.false_bne, if_true] at hx
        rw [hx, eB]; grind
      · rw [if_neg c] at eB
        simp only [hn, c, decide_false, bne_self_eq_false, Bool.false_eq_true, if_false] at hx
        rw [hx, eB]; grind
    · intro hva
      have hn : aM < 0 := hs.2.1 hva
      by_cases c : bM < 0
      · rw [if_pos c] at eB
        simp only [hn, c, decide_true, bne_self_eq_false, Bool.false_eq_true, if_false] at hx
        rw [hx, eB]; grind
      · rw [if_neg c] at eB
        simp only [hn, c, decide_true, decide_false, Bool.bne_false, if_true] at hx
        rw [hx, eB]; grind
  have le_of : ∀ {u v : Int}, u * T ≤ v * T → u ≤ v := fun h => Int.le_of_mul_le_mul_right h hT
  have lt_of : ∀ {u v : Int}, u * T < v * T → u < v := fun h => Int.lt_of_mul_lt_mul_right h (Int.le_of_lt hT)
  constructor
  · intro hva
    have hk := key.1 hva
    have hn : ¬ aM < 0 := fun z => by have := hs.2.2 z; omega
    rw [if_neg hn] at eA
    rw [eA] at k1 k2
    refine ⟨le_of (by rw [hk]; omega), le_of (by rw [hk]; exact k1), lt_of ?_⟩
    rw [Int.sub_mul, hk, hu]; omega
  · intro hva
    have hk := key.2 hva
    have hn : aM < 0 := hs.2.1 hva
    rw [if_pos hn] at eA
    rw [eA, Int.neg_mul] at k1 k2
    refine ⟨le_of (by rw [hk]; omega), le_of (by rw [hk]; omega), lt_of ?_⟩
    rw [Int.sub_mul, hk, hu]; omega
end Go.Proofs.Ytmoaolcioihjnaa.Dp
