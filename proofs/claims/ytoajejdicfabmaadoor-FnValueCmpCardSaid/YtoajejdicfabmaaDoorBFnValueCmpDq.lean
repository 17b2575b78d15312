import Derived.Test.YtoajejdicfabmaaDoorBFnValueCmpTh
import Derived.Test.YtoajejdicfabmaaDoorBFnValueCmpq4
namespace Go.Proofs.YtoajejdicfabmaaDoor.Dp
set_option linter.unusedVariables false
set_option linter.unusedSimpArgs false
open Go.RowKit Go.Proofs.YtoajejdicfabmaaDoor.Q Go.Proofs.YtoajejdicfabmaaDoor.Th Go.Proofs.YtoajejdicfabmaaDoorW.PrintWords Go.Proofs.YtoajejdicfabmaaDoorW.PrintLast
theorem dec_no {p : Prop} [Decidable p] (h : ¬ p) : some false = some (decide p) := by rw [decide_eq_false h]
theorem dec_yes {p : Prop} [Decidable p] (h : p) : some true = some (decide p) := by rw [decide_eq_true h]
theorem impl_ok (m e : Int) : impl_DecOk.f m e = some (decide (Ok m e)) := by
 have h := tmod10 m
 unfold impl_DecOk.f
 by_cases h1 : -99999999 ≤ m
 ·by_cases h2 : m ≤ 99999999
  ·by_cases h3 : -8 ≤ e
   ·by_cases h4 : e ≤ 8
    ·rw [if_pos h1, if_pos h2, if_pos h3, if_pos h4]
     by_cases h5 : m % 10 = 0
     ·rw [if_pos (h.2 h5)]
      by_cases h6 : m = 0
      ·subst h6
       by_cases he : e = 0
       ·subst he; rfl
       ·rw [beq_false_of_ne he]; exact dec_no (by unfold Ok; omega)
      ·rw [beq_false_of_ne h6]; exact dec_no (by unfold Ok; omega)
     ·rw [if_neg (fun z => h5 (h.1 z))]; exact dec_yes (by unfold Ok; omega)
    ·rw [if_pos h1, if_pos h2, if_pos h3, if_neg h4]; exact dec_no (by unfold Ok; omega)
   ·rw [if_pos h1, if_pos h2, if_neg h3]; exact dec_no (by unfold Ok; omega)
  ·rw [if_pos h1, if_neg h2]; exact dec_no (by unfold Ok; omega)
 ·rw [if_neg h1]; exact dec_no (by unfold Ok; omega)
theorem tens_l : ∀ (d k : Nat) (x n i : Int), d < k → 0 ≤ i → i + d = n → n ≤ 100 → 1 ≤ x → x * 10 ^ d ≤ 1000000000000000000 → impl_tens.l0 k x n i = some (x * 10 ^ d) := by
 intro d
 induction d with
 | zero =>
  intro k x n i hk h0 hn hn1 hx hb
  obtain ⟨k, rfl⟩ : ∃ m, k = m + 1 := ⟨k - 1, by omega⟩
  simp only [impl_tens.l0]; rw [if_neg (by omega)]; simp
 | succ d ih =>
  intro k x n i hk h0 hn hn1 hx hb
  obtain ⟨k, rfl⟩ : ∃ m, k = m + 1 := ⟨k - 1, by omega⟩
  have e : x * 10 ^ (d + 1) = x * 10 * 10 ^ d := by rw [Int.pow_succ, Int.mul_assoc, Int.mul_comm (10 ^ d) 10]
  have hx10 : x * 10 ≤ x * 10 * 10 ^ d := by
   have := mul_p10_le (x * 10) (by omega) 0 d
   simpa using this
  simp only [impl_tens.l0]
  rw [if_pos (by omega), wrap64_id (by omega) (by omega), wrap64_id (by omega) (by omega), e]
  exact ih k (x * 10) n (i + 1) (by omega) (by omega) (by omega) (by omega) (by omega) (by omega)
theorem tens (k : Nat) (n : Int) (hk : 20 ≤ k) (h0 : 0 ≤ n) (h1 : n ≤ 18) : impl_tens.f k n = some (10 ^ n.toNat) := by
 unfold impl_tens.f
 have := tens_l n.toNat k 1 n 0 (by omega) (by omega) (by omega) (by omega) (by omega) (by
  have := pow_mono (show n.toNat ≤ 18 by omega)
  omega)
 simpa using this
theorem small_mul (m : Int) (n : Nat) (h1 : -99999999 ≤ m) (h2 : m ≤ 99999999) (hn : n ≤ 9) : -100000000000000000 ≤ m * 10 ^ n ∧ m * 10 ^ n ≤ 100000000000000000 := by
 have hp := pow_mono hn
 have hp2 := p10_pos n
 generalize (10 : Int) ^ n = t at *
 rcases Int.le_total 0 m with h | h
 ·have := Int.mul_le_mul_of_nonneg_left hp h
  have := Int.mul_nonneg h (Int.le_of_lt hp2)
  omega
 ·have := Int.mul_le_mul_of_nonneg_left hp (show 0 ≤ -m by omega)
  have := Int.mul_nonneg (show 0 ≤ -m by omega) (Int.le_of_lt hp2)
  simp only [Int.neg_mul] at *
  omega
theorem ok_nz {m e : Int} (h : Ok m e) (h0 : m = 0) : e = 0 := (ok_mod h (by omega)).2
def sg (n : Int) : Int := if n < 0 then -1 else if 0 < n then 1 else 0
def ord (x y : Int) : Int := if x < y then -1 else if y < x then 1 else 0
theorem sg_range (n : Int) : -1 ≤ sg n ∧ sg n ≤ 1 := by unfold sg; split <;> (try split) <;> omega
theorem spec_sign (n : Int) : spec_l1Sign.f n = some (sg n) := by
 unfold spec_l1Sign.f sg; split
 ·rfl
 ·split <;> rfl
theorem impl_sign (n : Int) : impl_DecCmp_1.f n = some (sg n) := by
 unfold impl_DecCmp_1.f sg mx mn
 congr 1
 (repeat' split) <;> omega
theorem sg_sub (x y : Int) : sg (x - y) = ord x y := by unfold sg ord; (repeat' split) <;> omega
theorem val_pos {m e : Int} : (0 < val m e ↔ 0 < m) ∧ (val m e < 0 ↔ m < 0) := by
 have h1 := val_lt (m := 0) (n := m) (e := e)
 have h2 := val_lt (m := m) (n := 0) (e := e)
 rw [val_zero] at h1 h2
 exact ⟨h1, h2⟩
theorem sg_val (m e : Int) : sg (val m e) = sg m := by
 have := @val_pos m e
 unfold sg
 by_cases h1 : m < 0
 ·rw [if_pos h1, if_pos (this.2.2 h1)]
 ·rw [if_neg h1, if_neg (fun z => h1 (this.2.1 z))]
  by_cases h2 : 0 < m
  ·rw [if_pos h2, if_pos (this.1.2 h2)]
  ·rw [if_neg h2, if_neg (fun z => h2 (this.1.1 z))]
theorem ord_sg {x y : Int} (h : sg x ≠ sg y) : ord x y = sg (sg x - sg y) := by
 unfold sg ord at *
 (repeat' split at h) <;> (repeat' split) <;> omega
theorem ord_lo (aM aE bM bE : Int) (h1 : -64 ≤ bE) (h : bE ≤ aE) : ord (val aM aE) (val bM bE) = ord (aM * 10 ^ (aE - bE).toNat) bM := by
 have := sgn_cmp (aM := aM) (bM := bM) h1 h
 unfold ord
 by_cases c1 : aM * 10 ^ (aE - bE).toNat < bM
 ·rw [if_pos c1, if_pos (this.1.2 c1)]
 ·rw [if_neg c1, if_neg (fun z => c1 (this.1.1 z))]
  by_cases c2 : bM < aM * 10 ^ (aE - bE).toNat
  ·rw [if_pos c2, if_pos (this.2.2 c2)]
  ·rw [if_neg c2, if_neg (fun z => c2 (this.2.1 z))]
theorem ord_swap (x y : Int) : ord y x = - ord x y := by unfold ord; (repeat' split) <;> omega
theorem ord_hi (aM aE bM bE : Int) (h1 : -64 ≤ aE) (h : aE ≤ bE) : ord (val aM aE) (val bM bE) = ord aM (bM * 10 ^ (bE - aE).toNat) := by
 rw [ord_swap, ord_lo bM bE aM aE h1 h, ← ord_swap]
theorem far {aM aE bM bE : Int} (ha : Ok aM aE) (hb : Ok bM bE) (hd : 9 < aE - bE) (hs : sg aM = sg bM) : sg aM = ord (val aM aE) (val bM bE) := by
 have l1 := ok_low ha
 have l2 := ok_low hb
 rw [ord_lo _ _ _ _ (by omega) (by omega)]
 have h0 : aM ≠ 0 := by
  intro h
  have e1 := ok_nz ha h
  subst h
  have : bM = 0 := by unfold sg at hs; (repeat' split at hs) <;> omega
  have e2 := ok_nz hb this
  omega
 have hp := pow_mono (show 10 ≤ (aE - bE).toNat by omega)
 have h10 : (10 : Int) ^ 10 = 10000000000 := by decide
 rw [h10] at hp
 generalize (10 : Int) ^ (aE - bE).toNat = t at hp
 rcases Int.lt_or_gt_of_ne h0 with h | h
 ·have : (-aM) * 10000000000 ≤ (-aM) * t := Int.mul_le_mul_of_nonneg_left hp (by omega)
  simp only [Int.neg_mul] at this
  unfold sg ord
  rw [if_pos h, if_pos (by omega)]
 ·have : aM * 10000000000 ≤ aM * t := Int.mul_le_mul_of_nonneg_left hp (by omega)
  unfold sg ord
  rw [if_neg (by omega), if_pos h, if_neg (by omega), if_pos (by omega)]
theorem impl_cmp (k : Nat) (hk : 100 ≤ k) {aM aE bM bE : Int} (ha : Ok aM aE) (hb : Ok bM bE) : impl_DecCmp.f k aM aE bM bE = some (ord (val aM aE) (val bM bE)) := by
 obtain ⟨k, rfl⟩ : ∃ m, k = m + 1 := ⟨k - 1, by omega⟩
 have l1 := ok_low ha
 have l2 := ok_low hb
 unfold impl_DecCmp.f
 rw [impl_ok, Option.bind_some, if_pos (decide_eq_true ha), impl_ok, Option.bind_some, decide_eq_true hb, impl_DecCmp.j0, if_neg (by decide), impl_sign, Option.bind_some, impl_sign, Option.bind_some]
 have r1 := sg_range aM
 have r2 := sg_range bM
 by_cases hs : sg aM = sg bM
 ·rw [if_pos hs, wrap64_id (x := aE - bE) (by omega) (by omega)]
  by_cases h1 : aE - bE > 9
  ·rw [if_pos h1, Option.bind_some, far ha hb h1 hs]
  rw [if_neg h1]
  by_cases h2 : aE - bE < -9
  ·rw [if_pos h2, Option.bind_some, wrap64_id (by omega) (by omega), far hb ha (by omega) hs.symm, ← ord_swap]
  rw [if_neg h2]
  by_cases h3 : aE - bE > 0
  ·have hm := small_mul aM (aE - bE).toNat (by omega) (by omega) (by omega)
   rw [if_pos h3, tens k _ (by omega) (by omega) (by omega), Option.bind_some, wrap64_id (x := aM * 10 ^ (aE - bE).toNat) (by omega) (by omega), wrap64_id (by omega) (by omega), impl_sign, Option.bind_some, sg_sub, ord_lo _ _ _ _ (by omega) (by omega)]
  ·have hm := small_mul bM (bE - aE).toNat (by omega) (by omega) (by omega)
   rw [if_neg h3, wrap64_id (x := -(aE - bE)) (by omega) (by omega), show -(aE - bE) = bE - aE by omega, tens k _ (by omega) (by omega) (by omega), Option.bind_some, wrap64_id (x := bM * 10 ^ (bE - aE).toNat) (by omega) (by omega), wrap64_id (by omega) (by omega), impl_sign, Option.bind_some, sg_sub, ord_hi _ _ _ _ (by omega) (by omega)]
 ·rw [if_neg hs, Option.bind_some, Option.bind_some, wrap64_id (by omega) (by omega), impl_sign, Option.bind_some, ord_sg (by rw [sg_val, sg_val]; exact hs), sg_val, sg_val]
theorem impl_cmp_no (k : Nat) (hk : 2 ≤ k) {aM aE bM bE : Int} (h : ¬ (Ok aM aE ∧ Ok bM bE)) : impl_DecCmp.f k aM aE bM bE = some 0 := by
 obtain ⟨k, rfl⟩ : ∃ m, k = m + 1 := ⟨k - 1, by omega⟩
 unfold impl_DecCmp.f
 rw [impl_ok, Option.bind_some]
 by_cases ha : Ok aM aE
 ·have hb : ¬ Ok bM bE := fun z => h ⟨ha, z⟩
  rw [if_pos (decide_eq_true ha), impl_ok, Option.bind_some, decide_eq_false hb, impl_DecCmp.j0]; rfl
 ·rw [if_neg (fun z => ha (of_decide_eq_true z)), impl_DecCmp.j0]; rfl
theorem digits : ∀ (d k : Nat) (n : Int), d < k → 10 ^ d ≤ n → n < 10 ^ (d + 1) → n ≤ 1000000000 → d ≤ 18 → ∃ s, spec_l1Dec.f k n = some s ∧ s.size = d + 1 := by
 intro d
 induction d with
 | zero =>
  intro k n hk h1 h2 hn _
  obtain ⟨k, rfl⟩ : ∃ m, k = m + 1 := ⟨k - 1, by omega⟩
  simp only [Int.pow_zero, Nat.zero_add, Int.pow_one] at h1 h2
  rw [spec_l1Dec.f, if_neg (by omega), if_neg (by omega), if_pos h2]
  exact ⟨_, rfl, by rw [strOfNums_size]; rfl⟩
 | succ d ih =>
  intro k n hk h1 h2 hn hd
  obtain ⟨k, rfl⟩ : ∃ m, k = m + 1 := ⟨k - 1, by omega⟩
  have hp := p10_pos d
  rw [Int.pow_succ] at h1 h2
  rw [Int.pow_succ] at h2
  rw [spec_l1Dec.f, if_neg (by omega), if_neg (by omega), if_neg (by omega), Int.tdiv_eq_ediv_of_nonneg (by omega), wrap64_id (by omega) (by omega)]
  obtain ⟨s, hs, hz⟩ := ih k (n / 10) (by omega) (by omega) (by rw [Int.pow_succ]; omega) (by omega) (by omega)
  rw [hs, Option.bind_some, Option.bind_some, if_pos (by rw [strOfNums_size, hz]; simp; omega)]
  exact ⟨_, rfl, by rw [ByteArray.size_append, strOfNums_size, hz]; rfl⟩
theorem between (n : Int) (h0 : 1 ≤ n) : ∀ (j : Nat), n < 10 ^ j → ∃ d, d < j ∧ 10 ^ d ≤ n ∧ n < 10 ^ (d + 1) := by
 intro j
 induction j with
 | zero => intro h; simp at h; omega
 | succ j ih =>
  intro h
  by_cases c : n < 10 ^ j
  ·obtain ⟨d, h1, h2, h3⟩ := ih c; exact ⟨d, by omega, h2, h3⟩
  ·exact ⟨j, by omega, by omega, h⟩
def az (m : Int) : Int := if m < 0 then -m else m
theorem az_abs {m e : Int} (h : Ok m e) : spec_l1Abs.f m = some (az m) := by
 have := ok_low h
 unfold spec_l1Abs.f az
 split
 ·rw [wrap64_id (by omega) (by omega)]
 ·rfl
theorem many (k : Nat) (hk : 30 ≤ k) {m e : Int} (h : Ok m e) (h0 : m ≠ 0) : ∃ d : Nat, d ≤ 7 ∧ 10 ^ d ≤ az m ∧ az m < 10 ^ (d + 1) ∧ spec_l1Digits.f k (az m) = some ((d : Int) + 1) := by
 have lo := ok_low h
 have h1 : 1 ≤ az m ∧ az m ≤ 99999999 := by unfold az; split <;> omega
 obtain ⟨d, hd, h2, h3⟩ := between (az m) h1.1 8 (by have : (10 : Int) ^ 8 = 100000000 := (by decide); omega)
 obtain ⟨s, hs, hz⟩ := digits d k (az m) (by omega) h2 h3 (by omega) (by omega)
 refine ⟨d, by omega, h2, h3, ?_⟩
 unfold spec_l1Digits.f
 rw [hs, Option.bind_some, hz]; rfl
theorem val_hi {n e : Int} {d : Nat} (he : -64 ≤ e) (h : n < 10 ^ (d + 1)) : val n e < 10 ^ ((d : Int) + 1 + e + 64).toNat := by
 rw [show ((d : Int) + 1 + e + 64).toNat = (d + 1) + (e + 64).toNat by omega, Int.pow_add]
 exact Int.mul_lt_mul_of_pos_right h (p10_pos _)
theorem val_lo {n e : Int} {d : Nat} (he : -64 ≤ e) (h : 10 ^ d ≤ n) : 10 ^ ((d : Int) + e + 64).toNat ≤ val n e := by
 rw [show ((d : Int) + e + 64).toNat = d + (e + 64).toNat by omega, Int.pow_add]
 exact Int.mul_le_mul_of_nonneg_right h (Int.le_of_lt (p10_pos _))
theorem less_figures {m e n f : Int} {c d : Nat} (he : -64 ≤ e) (hf : -64 ≤ f) (h1 : m < 10 ^ (c + 1)) (h2 : 10 ^ d ≤ n) (h : (c : Int) + 1 + e < (d : Int) + 1 + f) : val m e < val n f := by
 have a1 := val_hi he h1
 have a2 := val_lo hf h2
 have := pow_mono (show ((c : Int) + 1 + e + 64).toNat ≤ ((d : Int) + f + 64).toNat by omega)
 omega
theorem az_val (m e : Int) : val (az m) e = if m < 0 then - val m e else val m e := by
 unfold az; split
 ·rw [val_neg]
 ·rfl
theorem cmp1 : ∀ (d j : Nat) (m n e aM aE : Int), e = aE + d → d ≤ 20 → -100 ≤ aE → aE ≤ 100 → -100000000000000000 ≤ n * 10 ^ d → n * 10 ^ d ≤ 100000000000000000 → -100000000000000000 ≤ m → m ≤ 100000000000000000 →
  spec_l1Cmp.l1 (d + 1 + j) m n e aM aE = some (sg (m - n * 10 ^ d)) := by
 intro d
 induction d with
 | zero =>
  intro j m n e aM aE he _ _ _ h1 h2 h3 h4
  rw [show 0 + 1 + j = j + 1 by omega, spec_l1Cmp.l1, if_neg (by omega), wrap64_id (by simp at h1 h2; omega) (by simp at h1 h2; omega), spec_sign, Option.bind_some]
  simp
 | succ d ih =>
  intro j m n e aM aE he hd hl hl2 h1 h2 h3 h4
  have e1 : n * 10 ^ (d + 1) = n * 10 * 10 ^ d := by rw [Int.pow_succ, Int.mul_assoc, Int.mul_comm (10 ^ d) 10]
  rw [e1] at h1 h2
  have hb : -100000000000000000 ≤ n * 10 ∧ n * 10 ≤ 100000000000000000 := by
   rcases Int.le_total 0 (n * 10) with h | h
   ·have := mul_p10_le (n * 10) h 0 d
    simp only [Nat.zero_add, Int.pow_zero, Int.mul_one] at this
    omega
   ·have := mul_p10_le (-(n * 10)) (by omega) 0 d
    simp only [Nat.zero_add, Int.pow_zero, Int.mul_one, Int.neg_mul] at this
    omega
  rw [show d + 1 + 1 + j = (d + 1 + j) + 1 by omega, spec_l1Cmp.l1, if_pos (by omega), wrap64_id (x := n * 10) (by omega) (by omega), wrap64_id (x := e - 1) (by omega) (by omega), e1]
  exact ih j m (n * 10) (e - 1) aM aE (by omega) (by omega) hl hl2 h1 h2 h3 h4
theorem cmp0 : ∀ (d j : Nat) (m n e aM aE bM bE : Int), e = bE + d → d ≤ 20 → -100 ≤ bE → bE ≤ 100 → -100000000000000000 ≤ m * 10 ^ d → m * 10 ^ d ≤ 100000000000000000 →
  spec_l1Cmp.l0 (d + 1 + j) m n e aM aE bM bE = spec_l1Cmp.l1 j (m * 10 ^ d) n bE aM aE := by
 intro d
 induction d with
 | zero =>
  intro j m n e aM aE bM bE he _ _ _ h1 h2
  rw [show 0 + 1 + j = j + 1 by omega, spec_l1Cmp.l0, if_neg (by omega)]
  simp
 | succ d ih =>
  intro j m n e aM aE bM bE he hd hl hl2 h1 h2
  have e1 : m * 10 ^ (d + 1) = m * 10 * 10 ^ d := by rw [Int.pow_succ, Int.mul_assoc, Int.mul_comm (10 ^ d) 10]
  rw [e1] at h1 h2
  have hb : -100000000000000000 ≤ m * 10 ∧ m * 10 ≤ 100000000000000000 := by
   rcases Int.le_total 0 (m * 10) with h | h
   ·have := mul_p10_le (m * 10) h 0 d
    simp only [Nat.zero_add, Int.pow_zero, Int.mul_one] at this
    omega
   ·have := mul_p10_le (-(m * 10)) (by omega) 0 d
    simp only [Nat.zero_add, Int.pow_zero, Int.mul_one, Int.neg_mul] at this
    omega
  rw [show d + 1 + 1 + j = (d + 1 + j) + 1 by omega, spec_l1Cmp.l0, if_pos (by omega), wrap64_id (x := m * 10) (by omega) (by omega), wrap64_id (x := e - 1) (by omega) (by omega), e1]
  exact ih j (m * 10) n (e - 1) aM aE bM bE (by omega) (by omega) hl hl2 h1 h2
theorem cmp_stop (j : Nat) (m n e aM aE : Int) (h : e ≤ aE) (h1 : -100000000000000000 ≤ n) (h2 : n ≤ 100000000000000000) (h3 : -100000000000000000 ≤ m) (h4 : m ≤ 100000000000000000) :
  spec_l1Cmp.l1 (j + 1) m n e aM aE = some (sg (m - n)) := by
 rw [spec_l1Cmp.l1, if_neg (by omega), wrap64_id (by omega) (by omega), spec_sign, Option.bind_some]
theorem cmp_stop0 (j : Nat) (m n e aM aE bM bE : Int) (h : e ≤ bE) : spec_l1Cmp.l0 (j + 1) m n e aM aE bM bE = spec_l1Cmp.l1 j m n bE aM aE := by
 rw [spec_l1Cmp.l0, if_neg (by omega)]
theorem l1cmp (k : Nat) (hk : 100 ≤ k) {aM aE bM bE : Int} (ha : Ok aM aE) (hb : Ok bM bE) : spec_l1Cmp.f k aM aE bM bE = some (ord (val aM aE) (val bM bE)) := by
 have l1 := ok_low ha
 have l2 := ok_low hb
 have r1 := sg_range aM
 have r2 := sg_range bM
 unfold spec_l1Cmp.f
 rw [spec_sign, Option.bind_some, spec_sign, Option.bind_some]
 by_cases hs : sg aM = sg bM
 ·rw [if_pos hs]
  by_cases h0 : aM = 0
  ·have : bM = 0 := by unfold sg at hs; (repeat' split at hs) <;> omega
   rw [if_pos h0, h0, this, val_zero, val_zero]; rfl
  ·have hb0 : bM ≠ 0 := by unfold sg at hs; (repeat' split at hs) <;> omega
   obtain ⟨c, hc, c1, c2, c3⟩ := many k (by omega) ha h0
   obtain ⟨d, hd, d1, d2, d3⟩ := many k (by omega) hb hb0
   rw [if_neg h0, az_abs ha, Option.bind_some, c3, Option.bind_some, az_abs hb, Option.bind_some, d3, Option.bind_some, wrap64_id (x := (c : Int) + 1 + aE) (by omega) (by omega), wrap64_id (x := (d : Int) + 1 + bE) (by omega) (by omega)]
   by_cases hx : (c : Int) + 1 + aE = (d : Int) + 1 + bE
   ·rw [if_pos hx]
    by_cases hle : bE ≤ aE
    ·have hm := small_mul aM (aE - bE).toNat (by omega) (by omega) (by omega)
     obtain ⟨j, rfl⟩ : ∃ j, k = (aE - bE).toNat + 1 + (j + 1) := ⟨k - (aE - bE).toNat - 2, by omega⟩
     rw [cmp0 _ _ _ _ _ _ _ _ _ (by omega) (by omega) (by omega) (by omega) hm.1 hm.2, cmp_stop _ _ _ _ _ _ hle (by omega) (by omega) hm.1 hm.2, sg_sub, ord_lo _ _ _ _ (by omega) hle]
    ·have hm := small_mul bM (bE - aE).toNat (by omega) (by omega) (by omega)
     obtain ⟨j, rfl⟩ : ∃ j, k = ((bE - aE).toNat + 1 + j) + 1 := ⟨k - (bE - aE).toNat - 2, by omega⟩
     rw [cmp_stop0 _ _ _ _ _ _ _ _ (by omega), cmp1 (bE - aE).toNat j _ _ _ _ _ (by omega) (by omega) (by omega) (by omega) hm.1 hm.2 (by omega) (by omega), sg_sub, ord_hi _ _ _ _ (by omega) (by omega)]
   ·have e1 := az_val aM aE
    have e2 := az_val bM bE
    rw [if_neg hx, wrap64_id (x := (c : Int) + 1 + aE - ((d : Int) + 1 + bE)) (by omega) (by omega), spec_sign, Option.bind_some, Option.bind_some]
    rcases Int.lt_or_gt_of_ne hx with h | h
    ·have hv := less_figures (m := az aM) (e := aE) (n := az bM) (f := bE) (by omega) (by omega) c2 d1 h
     rw [show sg ((c : Int) + 1 + aE - ((d : Int) + 1 + bE)) = -1 by unfold sg; rw [if_pos (by omega)], wrap64_id (by omega) (by omega)]
     congr 1
     rw [e1, e2] at hv
     unfold sg at hs ⊢
     unfold ord
     (repeat' split at hs) <;> (repeat' split at hv) <;> (repeat' split) <;> omega
    ·have hv := less_figures (m := az bM) (e := bE) (n := az aM) (f := aE) (by omega) (by omega) d2 c1 h
     rw [show sg ((c : Int) + 1 + aE - ((d : Int) + 1 + bE)) = 1 by unfold sg; rw [if_neg (by omega), if_pos (by omega)], wrap64_id (by omega) (by omega)]
     congr 1
     rw [e1, e2] at hv
     unfold sg at hs ⊢
     unfold ord
     (repeat' split at hs) <;> (repeat' split at hv) <;> (repeat' split) <;> omega
 ·rw [if_neg hs, Option.bind_some, Option.bind_some, wrap64_id (by omega) (by omega), spec_sign, Option.bind_some, ord_sg (by rw [sg_val, sg_val]; exact hs), sg_val, sg_val]
end Go.Proofs.YtoajejdicfabmaaDoor.Dp
