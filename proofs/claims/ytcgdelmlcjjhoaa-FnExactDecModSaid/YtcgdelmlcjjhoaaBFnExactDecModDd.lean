import Derived.Test.YtcgdelmlcjjhoaaBFnExactDecModDp
import Derived.Test.YtcgdelmlcjjhoaaBFnExactDecModq4
namespace Go.Proofs.Ytcgdelmlcjjhoaa.Dp
set_option linter.unusedVariables false
set_option linter.unusedSimpArgs false
open Go.RowKit Go.Proofs.Ytcgdelmlcjjhoaa.Q Go.Proofs.Ytcgdelmlcjjhoaa.Th Go.Proofs.YtcgdelmlcjjhoaaW.PrintWords Go.Proofs.YtcgdelmlcjjhoaaW.PrintLast

/-! ### quotients -/
theorem step_facts (X y : Int) (hX : 0 ≤ X) (hy : 0 < y) (hy2 : y ≤ 1000000000) (hb : X / y ≤ 100000000000000000) :
    wrap64 (wrap64 (X / y * 10) + wrap64 (Int.tdiv (wrap64 (X % y * 10)) y)) = X * 10 / y ∧ Int.tmod (wrap64 (X % y * 10)) y = X * 10 % y ∧ 0 ≤ X / y ∧ 0 ≤ X * 10 / y ∧ X * 10 / y ≤ 1000000000000000010 := by
  have h1 := Int.emod_nonneg X (Int.ne_of_gt hy)
  have h2 := Int.emod_lt_of_pos X hy
  have h3 := Int.ediv_nonneg hX (Int.le_of_lt hy)
  have hs := div_step X y hy
  have h4 : X % y * 10 / y ≤ 10 := by
    have : X % y * 10 / y < 10 := by
      rw [Int.ediv_lt_iff_lt_mul hy, Int.mul_comm 10 y]; omega
    omega
  have h5 : 0 ≤ X % y * 10 / y := Int.ediv_nonneg (by omega) (Int.le_of_lt hy)
  rw [wrap64_id (x := X % y * 10) (by omega) (by omega), Int.tdiv_eq_ediv_of_nonneg (by omega), Int.tmod_eq_emod_of_nonneg (by omega), wrap64_id (x := X % y * 10 / y) (by omega) (by omega), wrap64_id (x := X / y * 10) (by omega) (by omega), wrap64_id (by omega) (by omega)]
  exact ⟨hs.1, hs.2, h3, by omega, by omega⟩
theorem p10_succ (X : Int) (d : Nat) : X * 10 ^ (d + 1) = X * 10 * 10 ^ d := by rw [Int.pow_succ, Int.mul_assoc, Int.mul_comm (10 ^ d) 10]
theorem spec_q0 : ∀ (d k : Nat) (X y E : Int), d + 2 ≤ k → E = d → d ≤ 100 → 0 ≤ X → 0 < y → y ≤ 1000000000 → X / y ≤ 100000000000000000 →
    spec_l1Quot.l0 k y E (X / y) (X % y) = some (if X * 10 ^ d / y ≤ 100000000000000000 then (X * 10 ^ d / y, true) else (0, false)) := by
  intro d
  induction d with
  | zero =>
    intro k X y E hk hE hd hX hy hy2 hb
    obtain ⟨k, rfl⟩ : ∃ m, k = m + 2 := ⟨k - 2, by omega⟩
    subst hE
    simp only [spec_l1Quot.l0, spec_l1Quot.l1]
    rw [if_neg (by decide), if_neg (by decide), Int.pow_zero, Int.mul_one, if_pos hb]
  | succ d ih =>
    intro k X y E hk hE hd hX hy hy2 hb
    obtain ⟨k, rfl⟩ : ∃ m, k = m + 1 := ⟨k - 1, by omega⟩
    obtain ⟨e1, e2, e3, e4, e5⟩ := step_facts X y hX hy hy2 hb
    simp only [spec_l1Quot.l0]
    rw [if_pos (by omega), if_neg (by omega), e1, e2, is_big, Option.bind_some]
    by_cases h : 100000000000000000 < X * 10 / y
    · rw [if_pos (decide_eq_true (.inl h))]
      have := quo_mono X y hX hy 1 d
      rw [Int.pow_one, Nat.add_comm 1 d] at this
      rw [if_neg (by omega)]
    · rw [if_neg (fun z => by have := of_decide_eq_true z; omega), wrap64_id (by omega) (by omega), ih k (X * 10) y (E - 1) (by omega) (by omega) (by omega) (by omega) hy hy2 (by omega), p10_succ]
theorem spec_q1 : ∀ (d k : Nat) (q E : Int), d + 1 ≤ k → E = -(d : Int) → d ≤ 100 → 0 ≤ q → q ≤ 1000000000 → spec_l1Quot.l1 k E q = some (q / 10 ^ d, true) := by
  intro d
  induction d with
  | zero =>
    intro k q E hk hE hd hq hq2
    obtain ⟨k, rfl⟩ : ∃ m, k = m + 1 := ⟨k - 1, by omega⟩
    simp only [spec_l1Quot.l1]; rw [if_neg (by omega)]; simp
  | succ d ih =>
    intro k q E hk hE hd hq hq2
    obtain ⟨k, rfl⟩ : ∃ m, k = m + 1 := ⟨k - 1, by omega⟩
    simp only [spec_l1Quot.l1]
    rw [if_pos (by omega), wrap64_id (x := E + 1) (by omega) (by omega), Int.tdiv_eq_ediv_of_nonneg hq, wrap64_id (by omega) (by omega), ih k (q / 10) (E + 1) (by omega) (by omega) (by omega) (by omega) (by omega), Int.ediv_ediv_of_nonneg (by decide), Int.pow_succ, Int.mul_comm 10]
/-- the quotient, false if it is too great -/
def quoR (x y E : Int) : Int × Bool := if quo x y E ≤ 100000000000000000 then (quo x y E, true) else (0, false)
theorem ediv_small {x y : Int} (hx : 0 ≤ x) (hy : 0 < y) : 0 ≤ x / y ∧ x / y ≤ x := ⟨Int.ediv_nonneg hx (Int.le_of_lt hy), Int.ediv_le_self _ hx⟩
theorem quo_low {x y E : Int} (hx : 0 ≤ x) (hy : 0 < y) : 0 ≤ quo x y E := by
  unfold quo; split
  · exact Int.ediv_nonneg (Int.mul_nonneg hx (Int.le_of_lt (p10_pos _))) (Int.le_of_lt hy)
  · exact Int.ediv_nonneg hx (Int.mul_nonneg (Int.le_of_lt hy) (Int.le_of_lt (p10_pos _)))
theorem quo_neg_small {x y E : Int} (hx : 0 ≤ x) (hy : 0 < y) (hE : ¬ 0 ≤ E) : quo x y E ≤ x := by
  unfold quo; rw [if_neg hE]
  exact (ediv_small hx (Int.mul_pos hy (p10_pos _))).2
theorem spec_quot (k : Nat) (hk : 110 ≤ k) {x y E : Int} (hx : 0 ≤ x) (hx2 : x ≤ 100000000) (hy : 0 < y) (hy2 : y ≤ 100000000) (h1 : -100 ≤ E) (h2 : E ≤ 100) :
    spec_l1Quot.f k x y E = some (quoR x y E) := by
  have hs := ediv_small hx hy
  unfold spec_l1Quot.f
  rw [if_neg (by omega), Int.tdiv_eq_ediv_of_nonneg hx, Int.tmod_eq_emod_of_nonneg hx, wrap64_id (by omega) (by omega)]
  unfold quoR
  by_cases hE : 0 ≤ E
  · rw [spec_q0 E.toNat k x y E (by omega) (by omega) (by omega) hx hy (by omega) (by omega)]
    unfold quo; rw [if_pos hE]
  · obtain ⟨k, rfl⟩ : ∃ m, k = m + 1 := ⟨k - 1, by omega⟩
    simp only [spec_l1Quot.l0]
    have := quo_neg_small hx hy hE
    rw [if_neg (by omega), spec_q1 (-E).toNat k (x / y) E (by omega) (by omega) (by omega) hs.1 (by omega), if_pos (by omega), Int.ediv_ediv_of_nonneg (Int.le_of_lt hy)]
    unfold quo; rw [if_neg hE]

/-- the quotient with its sign -/
def sq (aM bM Q : Int) : Int := if ((decide (aM < 0)) != (decide (bM < 0))) = true then -Q else Q
def ab (m : Int) : Int := if m < 0 then -m else m
theorem ab_low (m : Int) : 0 ≤ ab m := by unfold ab; split <;> omega
theorem ab_ok {m e : Int} (h : Ok m e) : ab m ≤ 99999999 := by have := ok_low h; unfold ab; split <;> omega
/-- the answer of a division -/
def DivAns (aM aE bM bE p : Int) (r : Int × Int × Bool) : Prop :=
  if quo (ab aM) (ab bM) (aE - bE + p) ≤ 100000000000000000 then Ans (val (sq aM bM (quo (ab aM) (ab bM) (aE - bE + p))) (-p)) r else r = (0, 0, false)
theorem DivAns.uniq {aM aE bM bE p : Int} {r s : Int × Int × Bool} (h : DivAns aM aE bM bE p r) (k : DivAns aM aE bM bE p s) : r = s := by
  unfold DivAns at h k
  split at h
  · rename_i c; rw [if_pos c] at k; exact h.uniq k
  · rename_i c; rw [if_neg c] at k; rw [h, k]
theorem l1abs {m e : Int} (h : Ok m e) : spec_l1Abs.f m = some (ab m) := by
  have := ok_low h
  unfold spec_l1Abs.f ab
  split
  · rw [wrap64_id (by omega) (by omega)]
  · rfl
theorem size_ab {m e : Int} (h : Ok m e) : impl_size.f m = some (ab m) := by
  have := ok_low h
  unfold impl_size.f ab mx
  rw [wrap64_id (by omega) (by omega)]
  congr 1; split <;> split <;> omega
/-- what is made of a quotient -/
theorem fin_ans {f : Nat → Int → Int → Option (Int × Int × Bool)} (hf : Forms f) (k : Nat) (hk : 20 ≤ k) (aM bM Q p : Int) (h0 : 0 ≤ Q) (h1 : Q ≤ 100000000000000000) (hp : 0 ≤ p) (hp2 : p ≤ 8) :
    ∃ r, (if ((decide (aM < 0)) != (decide (bM < 0))) = true then ((f k (wrap64 (-Q)) (wrap64 (-p))).bind fun b => (some (b.1, b.2.1, b.2.2))) else ((f k Q (wrap64 (-p))).bind fun b => (some (b.1, b.2.1, b.2.2)))) = some r ∧ Ans (val (sq aM bM Q) (-p)) r := by
  rw [wrap64_id (x := -Q) (by omega) (by omega), wrap64_id (x := -p) (by omega) (by omega)]
  unfold sq
  split
  · obtain ⟨r, hr, hA⟩ := hf k (-Q) (-p) hk (by omega) (by omega) (by omega) (by omega)
    rw [hr]; exact ⟨r, rfl, hA⟩
  · obtain ⟨r, hr, hA⟩ := hf k Q (-p) hk (by omega) (by omega) (by omega) (by omega)
    rw [hr]; exact ⟨r, rfl, hA⟩
theorem l1div (k : Nat) (hk : 110 ≤ k) {aM aE bM bE p : Int} (ha : Ok aM aE) (hb : Ok bM bE) (hb0 : bM ≠ 0) (hp : 0 ≤ p) (hp2 : p ≤ 8) :
    ∃ r, spec_l1Div.f k aM aE bM bE p = some r ∧ DivAns aM aE bM bE p r := by
  have l1 := ok_low ha
  have l2 := ok_low hb
  have a1 := ab_low aM
  have a2 := ab_ok ha
  have b1 : 0 < ab bM := by unfold ab; split <;> omega
  have b2 := ab_ok hb
  unfold spec_l1Div.f
  rw [l1abs ha, Option.bind_some, l1abs hb, Option.bind_some, wrap64_id (x := aE - bE) (by omega) (by omega), wrap64_id (x := aE - bE + p) (by omega) (by omega), spec_quot k hk a1 (by omega) b1 (by omega) (by omega) (by omega), Option.bind_some]
  unfold quoR
  by_cases hq : quo (ab aM) (ab bM) (aE - bE + p) ≤ 100000000000000000
  · rw [if_pos hq, if_pos rfl]
    obtain ⟨r, hr, hA⟩ := fin_ans spec_new k (by omega) aM bM _ p (quo_low a1 b1) hq hp hp2
    exact ⟨r, hr, by unfold DivAns; rw [if_pos hq]; exact hA⟩
  · rw [if_neg hq, if_neg (by decide)]
    exact ⟨_, rfl, by unfold DivAns; rw [if_neg hq]⟩
theorem spec_div (k : Nat) (hk : 110 ≤ k) {aM aE bM bE p : Int} (ha : Ok aM aE) (hb : Ok bM bE) (hb0 : bM ≠ 0) (hp : 0 ≤ p) (hp2 : p ≤ 8) :
    ∃ r, spec_DecDiv.f k aM aE bM bE p = some r ∧ DivAns aM aE bM bE p r := by
  unfold spec_DecDiv.f
  rw [spec_ok, Option.bind_some, if_pos (decide_eq_true ha), spec_ok, Option.bind_some, if_pos (decide_eq_true hb), if_neg hb0, in_range, Option.bind_some, if_pos (decide_eq_true ⟨hp, hp2⟩)]
  obtain ⟨r, hr, hA⟩ := l1div k hk ha hb hb0 hp hp2
  rw [hr]; exact ⟨r, rfl, hA⟩
theorem spec_div_no (k : Nat) {aM aE bM bE p : Int} (h : ¬ (Ok aM aE ∧ Ok bM bE ∧ bM ≠ 0 ∧ 0 ≤ p ∧ p ≤ 8)) : spec_DecDiv.f k aM aE bM bE p = some (0, 0, false) := by
  unfold spec_DecDiv.f
  rw [spec_ok, Option.bind_some]
  by_cases ha : Ok aM aE
  · rw [if_pos (decide_eq_true ha), spec_ok, Option.bind_some]
    by_cases hb : Ok bM bE
    · rw [if_pos (decide_eq_true hb)]
      by_cases h0 : bM = 0
      · rw [if_pos h0]
      · rw [if_neg h0, in_range, Option.bind_some, if_neg (fun z => h ⟨ha, hb, h0, of_decide_eq_true z⟩)]
    · rw [if_neg (fun z => hb (of_decide_eq_true z))]
  · rw [if_neg (fun z => ha (of_decide_eq_true z))]

/-! ### the program's own -/
theorem impl_l1 : ∀ (d k : Nat) (X y E p aM aE bM bE : Int), d + 30 ≤ k → (E = d ∨ d = 0 ∧ E ≤ 0) → d ≤ 100 → 0 ≤ X → 0 < y → y ≤ 1000000000 → X / y ≤ 100000000000000000 → 0 ≤ p → p ≤ 8 →
    ∃ r, impl_DecDiv.l1 k p y E (X / y) (X % y) aM aE bM bE = some r ∧ (if X * 10 ^ d / y ≤ 100000000000000000 then Ans (val (sq aM bM (X * 10 ^ d / y)) (-p)) r else r = (0, 0, false)) := by
  intro d
  induction d with
  | zero =>
    intro k X y E p aM aE bM bE hk hE hd hX hy hy2 hb hp hp2
    obtain ⟨k, rfl⟩ : ∃ m, k = m + 1 := ⟨k - 1, by omega⟩
    simp only [impl_DecDiv.l1]
    rw [if_neg (by omega), Int.pow_zero, Int.mul_one]
    obtain ⟨r, hr, hA⟩ := fin_ans impl_forms k (by omega) aM bM (X / y) p (ediv_small hX hy).1 hb hp hp2
    exact ⟨r, hr, by rw [if_pos hb]; exact hA⟩
  | succ d ih =>
    intro k X y E p aM aE bM bE hk hE hd hX hy hy2 hb hp hp2
    obtain ⟨k, rfl⟩ : ∃ m, k = m + 1 := ⟨k - 1, by omega⟩
    obtain ⟨e1, e2, e3, e4, e5⟩ := step_facts X y hX hy hy2 hb
    simp only [impl_DecDiv.l1]
    rw [if_pos (by omega), if_neg (by omega), e1, e2]
    by_cases h : X * 10 / y > 100000000000000000
    · rw [if_pos h]
      have := quo_mono X y hX hy 1 d
      rw [Int.pow_one, Nat.add_comm 1 d] at this
      exact ⟨_, rfl, by rw [if_neg (by omega)]⟩
    · rw [if_neg h, wrap64_id (by omega) (by omega), p10_succ]
      exact ih k (X * 10) y (E - 1) p aM aE bM bE (by omega) (by omega) (by omega) (by omega) hy hy2 (by omega) hp hp2
/-- the loop's end where nothing is to be scaled up any more -/
theorem impl_end (k : Nat) (q rest y E p aM aE bM bE : Int) (hk : 30 ≤ k) (hE : E ≤ 0) (h0 : 0 ≤ q) (h1 : q ≤ 100000000000000000) (hp : 0 ≤ p) (hp2 : p ≤ 8) :
    ∃ r, impl_DecDiv.l1 k p y E q rest aM aE bM bE = some r ∧ Ans (val (sq aM bM q) (-p)) r := by
  obtain ⟨k, rfl⟩ : ∃ m, k = m + 1 := ⟨k - 1, by omega⟩
  simp only [impl_DecDiv.l1]
  rw [if_neg (by omega)]
  exact fin_ans impl_forms k (by omega) aM bM q p h0 h1 hp hp2
theorem wrap_nz (y : Int) (h0 : 0 < y) (h1 : y ≤ 1000000000000000000) : wrap64 (y * 10) ≠ 0 := by
  unfold wrap64
  by_cases hc : y * 10 + 9223372036854775808 < 18446744073709551616
  · rw [Int.emod_eq_of_lt (by omega) hc]; omega
  · have e : (y * 10 + 9223372036854775808) % 18446744073709551616 = y * 10 + 9223372036854775808 - 18446744073709551616 := by
      rw [← Int.sub_emod_right, Int.emod_eq_of_lt (by omega) (by omega)]
    rw [e]; omega
theorem impl_l0 : ∀ (d k : Nat) (x y E p aM aE bM bE : Int), 2 * d + 50 ≤ k → E = -(d : Int) → d ≤ 100 → 0 ≤ x → x ≤ 100000000 → y ≠ 0 → (0 < x → 0 < y ∧ y ≤ 1000000000000000000) → 0 ≤ p → p ≤ 8 →
    ∃ r, impl_DecDiv.l0 k p x y E aM aE bM bE = some r ∧ Ans (val (sq aM bM (if 0 < x then x / (y * 10 ^ d) else 0)) (-p)) r := by
  intro d
  induction d with
  | zero =>
    intro k x y E p aM aE bM bE hk hE hd hx hx2 hy hxy hp hp2
    obtain ⟨k, rfl⟩ : ∃ m, k = m + 2 := ⟨k - 2, by omega⟩
    simp only [impl_DecDiv.l0, impl_DecDiv.j2]
    rw [if_neg (by omega), if_neg (by decide), if_neg hy]
    by_cases h : 0 < x
    · have := hxy h
      have hs := ediv_small hx this.1
      rw [if_pos h, Int.pow_zero, Int.mul_one, Int.tdiv_eq_ediv_of_nonneg hx, wrap64_id (by omega) (by omega)]
      exact impl_end k _ _ y E p aM aE bM bE (by omega) (by omega) hs.1 (by omega) hp hp2
    · obtain rfl : x = 0 := by omega
      rw [if_neg h, Int.zero_tdiv, wrap64_id (by decide) (by decide)]
      exact impl_end k _ _ y E p aM aE bM bE (by omega) (by omega) (by omega) (by omega) hp hp2
  | succ d ih =>
    intro k x y E p aM aE bM bE hk hE hd hx hx2 hy hxy hp hp2
    obtain ⟨k, rfl⟩ : ∃ m, k = m + 2 := ⟨k - 2, by omega⟩
    simp only [impl_DecDiv.l0, impl_DecDiv.j2]
    rw [if_pos (by omega)]
    by_cases h : 0 < x
    · have hyy := hxy h
      rw [if_pos (decide_eq_true h), wrap64_id (x := E + 1) (by omega) (by omega), if_pos h]
      by_cases hbig : y > 100000000000000000
      · rw [if_pos hbig]
        obtain ⟨r, hr, hA⟩ := ih k 0 (wrap64 (y * 10)) (E + 1) p aM aE bM bE (by omega) (by omega) (by omega) (by decide) (by decide) (wrap_nz y hyy.1 hyy.2) (fun z => absurd z (by decide)) hp hp2
        rw [if_neg (by decide)] at hA
        have : x / (y * 10 ^ (d + 1)) = 0 := by
          apply Int.ediv_eq_zero_of_lt hx
          have h3 := mul_p10_le y (by omega) 0 (d + 1)
          simp only [Nat.zero_add, Int.pow_zero, Int.mul_one] at h3
          omega
        rw [this]
        exact ⟨r, hr, hA⟩
      · rw [if_neg hbig, wrap64_id (x := y * 10) (by omega) (by omega)]
        obtain ⟨r, hr, hA⟩ := ih k x (y * 10) (E + 1) p aM aE bM bE (by omega) (by omega) (by omega) hx hx2 (by omega) (fun _ => by omega) hp hp2
        rw [if_pos h] at hA
        rw [p10_succ]
        exact ⟨r, hr, hA⟩
    · obtain rfl : x = 0 := by omega
      rw [if_neg (fun z => h (of_decide_eq_true z)), if_neg hy, if_neg h, Int.zero_tdiv, wrap64_id (by decide) (by decide)]
      exact impl_end k _ _ y E p aM aE bM bE (by omega) (by omega) (by omega) (by omega) hp hp2
theorem impl_div (k : Nat) (hk : 500 ≤ k) {aM aE bM bE p : Int} (ha : Ok aM aE) (hb : Ok bM bE) (hb0 : bM ≠ 0) (hp : 0 ≤ p) (hp2 : p ≤ 8) :
    ∃ r, impl_DecDiv.f k aM aE bM bE p = some r ∧ DivAns aM aE bM bE p r := by
  obtain ⟨k, rfl⟩ : ∃ m, k = m + 1 := ⟨k - 1, by omega⟩
  have l1 := ok_low ha
  have l2 := ok_low hb
  have a1 := ab_low aM
  have a2 := ab_ok ha
  have b1 : 0 < ab bM := by unfold ab; split <;> omega
  have b2 := ab_ok hb
  have hs := ediv_small a1 b1
  unfold impl_DecDiv.f
  rw [impl_ok, Option.bind_some, if_pos (decide_eq_true ha), impl_ok, Option.bind_some, if_pos (decide_eq_true hb), if_neg hb0, if_neg (by omega), decide_eq_false (show ¬ p > 8 by omega)]
  simp only [impl_DecDiv.j0]
  rw [if_neg (by decide), size_ab ha, Option.bind_some, size_ab hb, Option.bind_some, wrap64_id (x := aE - bE) (by omega) (by omega), wrap64_id (x := aE - bE + p) (by omega) (by omega)]
  unfold DivAns
  by_cases hE : 0 ≤ aE - bE + p
  · obtain ⟨k, rfl⟩ : ∃ m, k = m + 2 := ⟨k - 2, by omega⟩
    simp only [impl_DecDiv.l0, impl_DecDiv.j2]
    rw [if_neg (by omega), if_neg (by decide), if_neg (by omega), Int.tdiv_eq_ediv_of_nonneg a1, Int.tmod_eq_emod_of_nonneg a1, wrap64_id (by omega) (by omega)]
    have := impl_l1 (aE - bE + p).toNat k (ab aM) (ab bM) (aE - bE + p) p aM aE bM bE (by omega) (by omega) (by omega) a1 b1 (by omega) (by omega) hp hp2
    unfold quo; rw [if_pos hE]; exact this
  · obtain ⟨r, hr, hA⟩ := impl_l0 (-(aE - bE + p)).toNat k (ab aM) (ab bM) (aE - bE + p) p aM aE bM bE (by omega) (by omega) (by omega) a1 (by omega) (by omega) (fun _ => by omega) hp hp2
    have hq := quo_neg_small a1 b1 hE
    refine ⟨r, hr, ?_⟩
    rw [if_pos (by omega)]
    unfold quo; rw [if_neg hE]
    by_cases h : 0 < ab aM
    · rw [if_pos h] at hA; exact hA
    · rw [if_neg h] at hA
      rw [show ab aM = 0 by omega, Int.zero_ediv]; exact hA
theorem impl_div_no (k : Nat) (hk : 2 ≤ k) {aM aE bM bE p : Int} (h : ¬ (Ok aM aE ∧ Ok bM bE ∧ bM ≠ 0 ∧ 0 ≤ p ∧ p ≤ 8)) : impl_DecDiv.f k aM aE bM bE p = some (0, 0, false) := by
  obtain ⟨k, rfl⟩ : ∃ m, k = m + 1 := ⟨k - 1, by omega⟩
  unfold impl_DecDiv.f
  simp only [impl_DecDiv.j0]
  rw [impl_ok, Option.bind_some]
  by_cases ha : Ok aM aE
  · rw [if_pos (decide_eq_true ha), impl_ok, Option.bind_some]
    by_cases hb : Ok bM bE
    · rw [if_pos (decide_eq_true hb)]
      by_cases h0 : bM = 0
      · rw [if_pos h0]; rfl
      · rw [if_neg h0]
        by_cases h1 : p < 0
        · rw [if_pos h1]; rfl
        · rw [if_neg h1, if_pos (decide_eq_true (show p > 8 from by apply Decidable.byContradiction; intro hc; exact h ⟨ha, hb, h0, by omega, by omega⟩))]
    · rw [if_neg (fun z => hb (of_decide_eq_true z))]; rfl
  · rw [if_neg (fun z => ha (of_decide_eq_true z))]; rfl
end Go.Proofs.Ytcgdelmlcjjhoaa.Dp
