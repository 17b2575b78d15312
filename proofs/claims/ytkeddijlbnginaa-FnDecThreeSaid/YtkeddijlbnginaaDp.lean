import Derived.Test.YtkeddijlbnginaaTh
import Derived.Test.YtkeddijlbnginaaQ6
import Derived.Test.YtkeddijlbnginaaQ7
import Derived.Test.YtkeddijlbnginaaQ8
import Derived.Test.YtkeddijlbnginaaQ11
import Derived.Test.YtkeddijlbnginaaQ12
import Derived.Test.YtkeddijlbnginaaQ13
import Derived.Test.YtkeddijlbnginaaQ14
import Derived.Test.YtkeddijlbnginaaQ15
import Derived.Test.YtkeddijlbnginaaQ21
import Derived.Test.YtkeddijlbnginaaQ22
namespace Go.Proofs.Ytkeddijlbnginaa.Dp
set_option linter.unusedVariables false
set_option linter.unusedSimpArgs false
open Go.RowKit Go.Proofs.Ytkeddijlbnginaa.Q Go.Proofs.Ytkeddijlbnginaa.Th Go.Proofs.YtkeddijlbnginaaW.PrintWords Go.Proofs.YtkeddijlbnginaaW.PrintLast

theorem dec_no {p : Prop} [Decidable p] (h : ¬ p) : some false = some (decide p) := by rw [decide_eq_false h]
theorem dec_yes {p : Prop} [Decidable p] (h : p) : some true = some (decide p) := by rw [decide_eq_true h]
theorem in_range (a b c : Int) : spec_l1In.f a b c = some (decide (b ≤ a ∧ a ≤ c)) := by
  unfold spec_l1In.f
  by_cases h1 : b ≤ a <;> by_cases h2 : a ≤ c <;> simp [h1, h2]
theorem spec_ok (m e : Int) : spec_DecOk.f m e = some (decide (Ok m e)) := by
  have h := tmod10 m
  unfold spec_DecOk.f
  by_cases h0 : m = 0
  · rw [if_pos h0]; subst h0
    by_cases he : e = 0
    · subst he; rfl
    · rw [beq_false_of_ne he]; exact dec_no (by unfold Ok; omega)
  · rw [if_neg h0, in_range, Option.bind_some]
    by_cases h1 : -99999999 ≤ m ∧ m ≤ 99999999
    · rw [if_pos (decide_eq_true h1), in_range, Option.bind_some]
      by_cases h2 : -8 ≤ e ∧ e ≤ 8
      · rw [if_pos (decide_eq_true h2)]
        by_cases h3 : m % 10 = 0
        · rw [h.2 h3]; exact dec_no (by unfold Ok; omega)
        · rw [bne_iff_ne.2 (fun z => h3 (h.1 z))]; exact dec_yes (by unfold Ok; omega)
      · rw [if_neg (fun z => h2 (of_decide_eq_true z))]; exact dec_no (by unfold Ok; omega)
    · rw [if_neg (fun z => h1 (of_decide_eq_true z))]; exact dec_no (by unfold Ok; omega)
theorem impl_ok (m e : Int) : impl_DecOk.f m e = some (decide (Ok m e)) := by
  have h := tmod10 m
  unfold impl_DecOk.f
  by_cases h1 : -99999999 ≤ m
  · by_cases h2 : m ≤ 99999999
    · by_cases h3 : -8 ≤ e
      · by_cases h4 : e ≤ 8
        · rw [if_pos h1, if_pos h2, if_pos h3, if_pos h4]
          by_cases h5 : m % 10 = 0
          · rw [if_pos (h.2 h5)]
            by_cases h6 : m = 0
            · subst h6
              by_cases he : e = 0
              · subst he; rfl
              · rw [beq_false_of_ne he]; exact dec_no (by unfold Ok; omega)
            · rw [beq_false_of_ne h6]; exact dec_no (by unfold Ok; omega)
          · rw [if_neg (fun z => h5 (h.1 z))]; exact dec_yes (by unfold Ok; omega)
        · rw [if_pos h1, if_pos h2, if_pos h3, if_neg h4]; exact dec_no (by unfold Ok; omega)
      · rw [if_pos h1, if_pos h2, if_neg h3]; exact dec_no (by unfold Ok; omega)
    · rw [if_pos h1, if_neg h2]; exact dec_no (by unfold Ok; omega)
  · rw [if_neg h1]; exact dec_no (by unfold Ok; omega)

theorem spec_new : Forms spec_l1New.f := forms_of (l0 := spec_l1New.l0) (okf := spec_DecOk.f) (fun _ _ _ => rfl) spec_ok (fun _ _ _ => rfl)
theorem impl_forms : Forms impl_form.f := forms_of (l0 := impl_form.l0) (okf := impl_DecOk.f) (fun _ _ _ => rfl) impl_ok (fun _ _ _ => rfl)

/-! ### sums -/
theorem tens_l : ∀ (d k : Nat) (x n i : Int), d < k → 0 ≤ i → i + d = n → n ≤ 100 → 1 ≤ x → x * 10 ^ d ≤ 1000000000000000000 → impl_tens.l0 k x n i = some (x * 10 ^ d) := by
  intro d
  induction d with
  | zero =>
    intro k x n i hk h0 hn hn1 hx hb
    obtain ⟨k, rfl⟩ : ∃ m, k = m + 1 := ⟨k - 1, by omega⟩
    simp only [impl_tens.l0]; rw [if_neg (by omega)]; simp
  | succ d ih =>
    intro k x n i hk h0 hn hn1 hx hb
    obtain ⟨k, rfl⟩ : ∃ m, k = m + 1 := ⟨k - 1, by omega⟩
    have e : x * 10 ^ (d + 1) = x * 10 * 10 ^ d := by rw [Int.pow_succ, Int.mul_assoc, Int.mul_comm (10 ^ d) 10]
    have hx10 : x * 10 ≤ x * 10 * 10 ^ d := by
      have := mul_p10_le (x * 10) (by omega) 0 d
      simpa using this
    simp only [impl_tens.l0]
    rw [if_pos (by omega), wrap64_id (by omega) (by omega), wrap64_id (by omega) (by omega), e]
    exact ih k (x * 10) n (i + 1) (by omega) (by omega) (by omega) (by omega) (by omega) (by omega)
theorem tens (k : Nat) (n : Int) (hk : 20 ≤ k) (h0 : 0 ≤ n) (h1 : n ≤ 18) : impl_tens.f k n = some (10 ^ n.toNat) := by
  unfold impl_tens.f
  have := tens_l n.toNat k 1 n 0 (by omega) (by omega) (by omega) (by omega) (by omega) (by
    have := pow_mono (show n.toNat ≤ 18 by omega)
    omega)
  simpa using this

theorem l1up_l : ∀ (d k : Nat) (x n : Int), d < k → n = d → d ≤ 40 → -1000000000 ≤ x → x ≤ 1000000000 →
    ((spec_l1Up.l0 k x n = some (x * 10 ^ d, true) ∧ -1000000000 ≤ x * 10 ^ d ∧ x * 10 ^ d ≤ 1000000000) ∨ (spec_l1Up.l0 k x n = some (0, false) ∧ ∃ i, i ≤ d ∧ (999999999 < x * 10 ^ i ∨ x * 10 ^ i < -999999999))) := by
  intro d
  induction d with
  | zero =>
    intro k x n hk hn hd h1 h2
    obtain ⟨k, rfl⟩ : ∃ m, k = m + 1 := ⟨k - 1, by omega⟩
    simp only [spec_l1Up.l0]; rw [if_neg (by omega)]; left; simp; omega
  | succ d ih =>
    intro k x n hk hn hd h1 h2
    obtain ⟨k, rfl⟩ : ∃ m, k = m + 1 := ⟨k - 1, by omega⟩
    have e : ∀ i : Nat, x * 10 ^ (i + 1) = x * 10 * 10 ^ i := fun i => by rw [Int.pow_succ, Int.mul_assoc, Int.mul_comm (10 ^ i) 10]
    simp only [spec_l1Up.l0]
    rw [if_pos (by omega), wrap64_id (by omega) (by omega)]
    by_cases h3 : x * 10 > 1000000000
    · rw [if_pos h3]; exact .inr ⟨rfl, 1, by omega, .inl (by simp; omega)⟩
    rw [if_neg h3]
    by_cases h4 : x * 10 < -1000000000
    · rw [if_pos h4]; exact .inr ⟨rfl, 1, by omega, .inr (by simp; omega)⟩
    rw [if_neg h4, wrap64_id (by omega) (by omega), e]
    rcases ih k (x * 10) (n - 1) (by omega) (by omega) (by omega) (by omega) (by omega) with h | ⟨h, i, hi, hb⟩
    · exact .inl h
    · exact .inr ⟨h, i + 1, by omega, by rw [e]; exact hb⟩
theorem l1up (k : Nat) (x n : Int) (hk : 50 ≤ k) (h0 : 0 ≤ n) (hn : n ≤ 40) (h1 : -1000000000 ≤ x) (h2 : x ≤ 1000000000) :
    ((spec_l1Up.f k x n = some (x * 10 ^ n.toNat, true) ∧ -1000000000 ≤ x * 10 ^ n.toNat ∧ x * 10 ^ n.toNat ≤ 1000000000) ∨ (spec_l1Up.f k x n = some (0, false) ∧ ∃ i, i ≤ n.toNat ∧ (999999999 < x * 10 ^ i ∨ x * 10 ^ i < -999999999))) :=
  l1up_l n.toNat k x n (by omega) (by omega) (by omega) h1 h2
theorem l1up0 (k : Nat) (x : Int) (hk : 1 ≤ k) : spec_l1Up.f k x 0 = some (x, true) := by
  obtain ⟨k, rfl⟩ : ∃ m, k = m + 1 := ⟨k - 1, by omega⟩
  simp [spec_l1Up.f, spec_l1Up.l0]
theorem least (a b : Int) : spec_l1Least.f a b = some (if a < b then a else b) := by
  unfold spec_l1Least.f; split <;> rfl

theorem small_mul (m : Int) (n : Nat) (h1 : -99999999 ≤ m) (h2 : m ≤ 99999999) (hn : n ≤ 9) : -100000000000000000 ≤ m * 10 ^ n ∧ m * 10 ^ n ≤ 100000000000000000 := by
  have hp := pow_mono hn
  have hp2 := p10_pos n
  generalize (10 : Int) ^ n = t at *
  rcases Int.le_total 0 m with h | h
  · have := Int.mul_le_mul_of_nonneg_left hp h
    have := Int.mul_nonneg h (Int.le_of_lt hp2)
    omega
  · have := Int.mul_le_mul_of_nonneg_left hp (show 0 ≤ -m by omega)
    have := Int.mul_nonneg (show 0 ≤ -m by omega) (Int.le_of_lt hp2)
    simp only [Int.neg_mul] at *
    omega

theorem ok_nz {m e : Int} (h : Ok m e) (h0 : m = 0) : e = 0 := (ok_mod h (by omega)).2
theorem ans_zero_l {aM aE bM bE : Int} (ha : Ok aM aE) (hb : Ok bM bE) (h : bM = 0) : Ans (val aM aE + val bM bE) (aM, aE, true) := by
  subst h; rw [val_zero, Int.add_zero]; exact .yes ha rfl
theorem ans_zero_r {aM aE bM bE : Int} (ha : Ok aM aE) (hb : Ok bM bE) (h : aM = 0) : Ans (val aM aE + val bM bE) (bM, bE, true) := by
  subst h; rw [val_zero, Int.zero_add]; exact .yes hb rfl

/-- the sum of two numbers in their form, by whatever makes forms -/
theorem sum_form {f : Nat → Int → Int → Option (Int × Int × Bool)} (hf : Forms f) (k : Nat) (hk : 20 ≤ k) {aM aE bM bE : Int} (ha : Ok aM aE) (hb : Ok bM bE) (h : bE ≤ aE)
    (h1 : -100000000000000000 ≤ aM * 10 ^ (aE - bE).toNat) (h2 : aM * 10 ^ (aE - bE).toNat ≤ 100000000000000000) :
    ∃ r, f k (wrap64 (aM * 10 ^ (aE - bE).toNat + bM)) bE = some r ∧ Ans (val aM aE + val bM bE) r := by
  have l2 := ok_low hb
  rw [wrap64_id (by omega) (by omega), ← val_sum aM aE bM bE (by omega) h]
  exact hf k _ bE hk (by omega) (by omega) (by omega) (by omega)

theorem l1add (k : Nat) (hk : 100 ≤ k) {aM aE bM bE : Int} (ha : Ok aM aE) (hb : Ok bM bE) :
    ∃ r, spec_l1Add.f k aM aE bM bE = some r ∧ Ans (val aM aE + val bM bE) r := by
  have l1 := ok_low ha
  have l2 := ok_low hb
  unfold spec_l1Add.f
  by_cases ha0 : aM = 0
  · rw [if_pos ha0]; exact ⟨_, rfl, ans_zero_r ha hb ha0⟩
  rw [if_neg ha0]
  by_cases hb0 : bM = 0
  · rw [if_pos hb0]; exact ⟨_, rfl, ans_zero_l ha hb hb0⟩
  rw [if_neg hb0, least, Option.bind_some]
  by_cases hlt : aE < bE
  · rw [if_pos hlt, show aE - aE = 0 by omega, wrap64_id (x := 0) (by decide) (by decide), wrap64_id (x := bE - aE) (by omega) (by omega), l1up0 k aM (by omega), Option.bind_some]
    rcases l1up k bM (bE - aE) (by omega) (by omega) (by omega) (by omega) (by omega) with ⟨h, h1, h2⟩ | ⟨h, i, hi, hbig⟩
    · rw [h, Option.bind_some, if_pos rfl, if_pos rfl]
      obtain ⟨r, hr, hA⟩ := sum_form spec_new k (by omega) hb ha (Int.le_of_lt hlt) (by omega) (by omega)
      rw [Int.add_comm] at hr
      rw [Int.add_comm] at hA
      rw [hr]; exact ⟨r, rfl, hA⟩
    · rw [h, Option.bind_some, if_pos rfl, if_neg (by decide)]
      refine ⟨_, rfl, ?_⟩
      rw [Int.add_comm]
      exact sum_none hb ha hlt ha0 i hi hbig
  · rw [if_neg hlt, show bE - bE = 0 by omega, wrap64_id (x := 0) (by decide) (by decide), wrap64_id (x := aE - bE) (by omega) (by omega), l1up0 k bM (by omega)]
    rcases l1up k aM (aE - bE) (by omega) (by omega) (by omega) (by omega) (by omega) with ⟨h, h1, h2⟩ | ⟨h, i, hi, hbig⟩
    · rw [h, Option.bind_some, Option.bind_some, if_pos rfl, if_pos rfl]
      obtain ⟨r, hr, hA⟩ := sum_form spec_new k (by omega) ha hb (by omega) (by omega) (by omega)
      rw [hr]; exact ⟨r, rfl, hA⟩
    · rw [h, Option.bind_some, Option.bind_some, if_neg (by decide)]
      refine ⟨_, rfl, ?_⟩
      by_cases he : bE < aE
      · exact sum_none ha hb he hb0 i hi hbig
      · exfalso
        have : i = 0 := by omega
        subst this; simp at hbig; omega

theorem impl_j1 (k : Nat) (hk : 100 ≤ k) {aM aE bM bE : Int} (ha : Ok aM aE) (hb : Ok bM bE) (h : bE ≤ aE) :
    ∃ r, impl_DecAdd.j1 (k + 1) aM aE bM bE = some r ∧ Ans (val aM aE + val bM bE) r := by
  have l1 := ok_low ha
  have l2 := ok_low hb
  simp only [impl_DecAdd.j1]
  by_cases hb0 : bM = 0
  · rw [if_pos hb0]; exact ⟨_, rfl, ans_zero_l ha hb hb0⟩
  rw [if_neg hb0]
  by_cases ha0 : aM = 0
  · rw [if_pos ha0]; exact ⟨_, rfl, ans_zero_r ha hb ha0⟩
  rw [if_neg ha0, wrap64_id (x := aE - bE) (by omega) (by omega)]
  by_cases hd : aE - bE > 9
  · rw [if_pos hd]
    have hp := pow_mono (show 10 ≤ (aE - bE).toNat by omega)
    refine ⟨_, rfl, sum_none ha hb (by omega) hb0 10 (by omega) ?_⟩
    have : (10 : Int) ^ 10 = 10000000000 := by decide
    omega
  · rw [if_neg hd, tens k (aE - bE) (by omega) (by omega) (by omega), Option.bind_some]
    have hs := small_mul aM (aE - bE).toNat (by omega) (by omega) (by omega)
    obtain ⟨r, hr, hA⟩ := sum_form impl_forms k (by omega) ha hb h hs.1 hs.2
    rw [wrap64_id (x := aM * 10 ^ (aE - bE).toNat) (by omega) (by omega), hr]
    exact ⟨r, rfl, hA⟩
theorem impl_add (k : Nat) (hk : 200 ≤ k) {aM aE bM bE : Int} (ha : Ok aM aE) (hb : Ok bM bE) :
    ∃ r, impl_DecAdd.f k aM aE bM bE = some r ∧ Ans (val aM aE + val bM bE) r := by
  obtain ⟨k, rfl⟩ : ∃ m, k = m + 2 := ⟨k - 2, by omega⟩
  unfold impl_DecAdd.f
  rw [impl_ok, Option.bind_some, if_pos (decide_eq_true ha), impl_ok, Option.bind_some, decide_eq_true hb]
  simp only [impl_DecAdd.j0]
  rw [if_neg (by decide)]
  by_cases h : aE < bE
  · rw [if_pos h, Int.add_comm]
    exact impl_j1 k (by omega) hb ha (by omega)
  · rw [if_neg h]
    exact impl_j1 k (by omega) ha hb (by omega)
theorem impl_add_no (k : Nat) (hk : 2 ≤ k) {aM aE bM bE : Int} (h : ¬ (Ok aM aE ∧ Ok bM bE)) : impl_DecAdd.f k aM aE bM bE = some (0, 0, false) := by
  obtain ⟨k, rfl⟩ : ∃ m, k = m + 1 := ⟨k - 1, by omega⟩
  unfold impl_DecAdd.f
  rw [impl_ok, Option.bind_some]
  by_cases ha : Ok aM aE
  · have hb : ¬ Ok bM bE := fun z => h ⟨ha, z⟩
    rw [if_pos (decide_eq_true ha), impl_ok, Option.bind_some, decide_eq_false hb]
    simp only [impl_DecAdd.j0]; rfl
  · rw [if_neg (fun z => ha (of_decide_eq_true z))]
    simp only [impl_DecAdd.j0]; rfl
theorem spec_add (k : Nat) (hk : 100 ≤ k) {aM aE bM bE : Int} (ha : Ok aM aE) (hb : Ok bM bE) :
    ∃ r, spec_DecAdd.f k aM aE bM bE = some r ∧ Ans (val aM aE + val bM bE) r := by
  unfold spec_DecAdd.f
  rw [spec_ok, Option.bind_some, if_pos (decide_eq_true ha), spec_ok, Option.bind_some, if_pos (decide_eq_true hb)]
  obtain ⟨r, hr, hA⟩ := l1add k hk ha hb
  rw [hr]; exact ⟨r, rfl, hA⟩
theorem spec_add_no (k : Nat) {aM aE bM bE : Int} (h : ¬ (Ok aM aE ∧ Ok bM bE)) : spec_DecAdd.f k aM aE bM bE = some (0, 0, false) := by
  unfold spec_DecAdd.f
  rw [spec_ok, Option.bind_some]
  by_cases ha : Ok aM aE
  · have hb : ¬ Ok bM bE := fun z => h ⟨ha, z⟩
    rw [if_pos (decide_eq_true ha), spec_ok, Option.bind_some, if_neg (fun z => hb (of_decide_eq_true z))]
  · rw [if_neg (fun z => ha (of_decide_eq_true z))]

/-! ### differences -/
theorem mul_bound {a b : Int} (h1 : -99999999 ≤ a) (h2 : a ≤ 99999999) (h3 : -99999999 ≤ b) (h4 : b ≤ 99999999) : -9999999800000001 ≤ a * b ∧ a * b ≤ 9999999800000001 := by
  have h := Int.natAbs_mul a b
  have : a.natAbs * b.natAbs ≤ 99999999 * 99999999 := Nat.mul_le_mul (by omega) (by omega)
  omega
theorem impl_mul (k : Nat) (hk : 20 ≤ k) {aM aE bM bE : Int} (ha : Ok aM aE) (hb : Ok bM bE) :
    ∃ r, impl_DecMul.f k aM aE bM bE = some r ∧ Ans (val (aM * bM) (aE + bE)) r := by
  have l1 := ok_low ha
  have l2 := ok_low hb
  have hm := mul_bound l1.2.2.1 l1.2.2.2 l2.2.2.1 l2.2.2.2
  unfold impl_DecMul.f
  rw [impl_ok, Option.bind_some, if_pos (decide_eq_true ha), impl_ok, Option.bind_some, if_pos (decide_eq_true hb), wrap64_id (x := aM * bM) (by omega) (by omega), wrap64_id (x := aE + bE) (by omega) (by omega)]
  obtain ⟨r, hr, hA⟩ := impl_forms k (aM * bM) (aE + bE) hk (by omega) (by omega) (by omega) (by omega)
  rw [hr]; exact ⟨r, rfl, hA⟩
theorem impl_mul_no (k : Nat) {aM aE bM bE : Int} (h : ¬ (Ok aM aE ∧ Ok bM bE)) : impl_DecMul.f k aM aE bM bE = some (0, 0, false) := by
  unfold impl_DecMul.f
  rw [impl_ok, Option.bind_some]
  by_cases ha : Ok aM aE
  · have hb : ¬ Ok bM bE := fun z => h ⟨ha, z⟩
    rw [if_pos (decide_eq_true ha), impl_ok, Option.bind_some, if_neg (fun z => hb (of_decide_eq_true z))]
  · rw [if_neg (fun z => ha (of_decide_eq_true z))]
/-! ### the laws' ends -/
theorem law_end (t : Bool) : (if (t != t) = true then (none : Option Bool) else some true) = some true := by cases t <;> rfl
theorem i64 {a : Int} (h : (Lit.int .i64 a).wf = true) : -9223372036854775808 ≤ a ∧ a ≤ 9223372036854775807 := by
  simp [Lit.wf, IntKind.min, IntKind.max, IntKind.signed, IntKind.bits] at h
  omega

end Go.Proofs.Ytkeddijlbnginaa.Dp
