-- the words that this claim uses, laid by a program of this session (wip/tools); Lean checks it
import Derived.RowKit
namespace Go.Proofs.YtoajejdicfabmaaDoor.Th
set_option linter.unusedVariables false
set_option linter.unusedSimpArgs false
open Go.RowKit
def Ok (m e : Int) : Prop := (m = 0 ∧ e = 0) ∨ (-99999999 ≤ m ∧ m ≤ 99999999 ∧ -8 ≤ e ∧ e ≤ 8 ∧ m % 10 ≠ 0)
instance (m e : Int) : Decidable (Ok m e) := by unfold Ok; infer_instance
def val (m e : Int) : Int := m * 10 ^ (e + 64).toNat
theorem p10_pos (n : Nat) : (0 : Int) < 10 ^ n := Int.pow_pos (by decide)
theorem val_shift (m e : Int) (k : Nat) (he : -64 ≤ e) : val (m * 10 ^ k) e = val m (e + k) := by
 unfold val
 rw [show (e + k + 64).toNat = k + (e + 64).toNat by omega, Int.pow_add, Int.mul_assoc]
theorem val_up (m e : Int) (he : -64 ≤ e) : val (m * 10) e = val m (e + 1) := by
 have := val_shift m e 1 he
 simpa using this
theorem val_zero (e : Int) : val 0 e = 0 := by simp [val]
theorem val_neg (m e : Int) : val (-m) e = - val m e := by simp [val, Int.neg_mul]
theorem val_inj {m n e : Int} (h : val m e = val n e) : m = n := Int.eq_of_mul_eq_mul_right (Int.ne_of_gt (p10_pos _)) h
theorem val_lt {m n e : Int} : val m e < val n e ↔ m < n := by
 constructor
 ·intro h; exact Int.lt_of_mul_lt_mul_right h (Int.le_of_lt (p10_pos _))
 ·intro h; exact Int.mul_lt_mul_of_pos_right h (p10_pos _)
theorem mul10_mod (a : Int) (k : Nat) (hk : 0 < k) : (a * 10 ^ k) % 10 = 0 := by
 obtain ⟨j, rfl⟩ : ∃ j, k = j + 1 := ⟨k - 1, by omega⟩
 rw [Int.pow_succ, ← Int.mul_assoc]; omega
theorem mul10_zero {a : Int} {k : Nat} (h : a * 10 ^ k = 0) : a = 0 := by
 rcases Int.mul_eq_zero.1 h with h | h
 ·exact h
 ·exact absurd h (Int.ne_of_gt (p10_pos _))
theorem val_to {a b m e : Int} (hb : -64 ≤ b) (hbe : b ≤ e) (h : val a b = val m e) : a = m * 10 ^ (e - b).toNat := by
 have h2 := val_shift m b (e - b).toNat hb
 rw [show b + ((e - b).toNat : Int) = e by omega] at h2
 exact val_inj (h.trans h2.symm)
theorem ok_low {m e : Int} (h : Ok m e) : -8 ≤ e ∧ e ≤ 8 ∧ -99999999 ≤ m ∧ m ≤ 99999999 := by
 unfold Ok at h; omega
theorem ok_mod {m e : Int} (h : Ok m e) (h0 : m % 10 = 0) : m = 0 ∧ e = 0 := by
 unfold Ok at h; omega
theorem ok_inj_le {a b c d : Int} (h1 : Ok a b) (h2 : Ok c d) (hbd : b ≤ d) (h : val a b = val c d) : a = c ∧ b = d := by
 have e := val_to (by have := ok_low h1; omega) hbd h
 rcases Int.lt_or_eq_of_le hbd with hlt | rfl
 ·have hm := mul10_mod c (d - b).toNat (by omega)
  rw [← e] at hm
  obtain ⟨rfl, rfl⟩ := ok_mod h1 hm
  have := mul10_zero e.symm
  subst this
  unfold Ok at h2; omega
 ·exact ⟨val_inj h, rfl⟩
theorem ok_inj {a b c d : Int} (h1 : Ok a b) (h2 : Ok c d) (h : val a b = val c d) : a = c ∧ b = d := by
 rcases Int.le_total b d with hb | hb
 ·exact ok_inj_le h1 h2 hb h
 ·obtain ⟨h3, h4⟩ := ok_inj_le h2 h1 hb h.symm; exact ⟨h3.symm, h4.symm⟩
def Ans (v : Int) (r : Int × Int × Bool) : Prop :=
 (r.2.2 = true ∧ Ok r.1 r.2.1 ∧ val r.1 r.2.1 = v) ∨ (r = (0, 0, false) ∧ ∀ a b, Ok a b → val a b ≠ v)
theorem Ans.uniq {v : Int} {r s : Int × Int × Bool} (h : Ans v r) (k : Ans v s) : r = s := by
 obtain ⟨a, b, t⟩ := r
 obtain ⟨c, d, u⟩ := s
 rcases h with ⟨h1, h2, h3⟩ | ⟨h1, h2⟩ <;> rcases k with ⟨k1, k2, k3⟩ | ⟨k1, k2⟩
 ·obtain ⟨rfl, rfl⟩ := ok_inj h2 k2 (h3.trans k3.symm); simp_all
 ·exact absurd h3 (k2 _ _ h2)
 ·exact absurd k3 (h2 _ _ k2)
 ·rw [h1, k1]
theorem Ans.yes {v a b : Int} (h : Ok a b) (e : val a b = v) : Ans v (a, b, true) := .inl ⟨rfl, h, e⟩
theorem Ans.ok {v : Int} {a b : Int} (h : Ans v (a, b, true)) : Ok a b ∧ val a b = v := by
 rcases h with ⟨_, h2, h3⟩ | ⟨h1, _⟩
 ·exact ⟨h2, h3⟩
 ·simp at h1
theorem Ans.no {v : Int} {a b : Int} (h : Ans v (a, b, false)) : a = 0 ∧ b = 0 ∧ ∀ p q, Ok p q → val p q ≠ v := by
 rcases h with ⟨h1, _, _⟩ | ⟨h1, h2⟩
 ·simp at h1
 ·simp at h1; exact ⟨h1.1, h1.2, h2⟩
theorem Ans.form {v : Int} {a b : Int} {t : Bool} (h : Ans v (a, b, t)) : Ok a b := by
 cases t with
 | true => exact h.ok.1
 | false => obtain ⟨rfl, rfl, _⟩ := h.no; exact .inl ⟨rfl, rfl⟩
theorem ans_self {m e : Int} (hm : m % 10 ≠ 0) (he : -64 ≤ e) : Ans (val m e) (if Ok m e then (m, e, true) else (0, 0, false)) := by
 by_cases h : Ok m e
 ·rw [if_pos h]; exact .yes h rfl
 ·rw [if_neg h]
  refine .inr ⟨rfl, fun a b hab e2 => ?_⟩
  have hb := ok_low hab
  rcases Int.lt_trichotomy b e with hlt | rfl | hlt
  ·have e3 := val_to (by omega) (Int.le_of_lt hlt) e2
   have h4 := mul10_mod m (e - b).toNat (by omega)
   rw [← e3] at h4
   obtain ⟨rfl, rfl⟩ := ok_mod hab h4
   have := mul10_zero e3.symm
   omega
  ·rw [val_inj e2] at hab; exact h hab
  ·have e3 := val_to he (Int.le_of_lt hlt) e2.symm
   have h4 := mul10_mod a (b - e).toNat (by omega)
   omega
theorem tmod10 (x : Int) : (Int.tmod x 10 = 0) ↔ x % 10 = 0 := by
 rw [Int.tmod_eq_emod]
 split
 ·omega
 ·rename_i h
  constructor
  ·intro h2; have := Int.emod_lt_of_pos x (show (0 : Int) < 10 by decide); simp at h2 ⊢; omega
  ·intro h2; exact absurd (.inr (Int.dvd_of_emod_eq_zero h2)) h
theorem tdiv10 (x : Int) (h : x % 10 = 0) : Int.tdiv x 10 * 10 = x := by
 have := Int.tdiv_eq_ediv (a := x) (b := 10)
 rw [if_pos (.inr (Int.dvd_of_emod_eq_zero h))] at this
 omega
theorem wrap64_id {x : Int} (h1 : -9223372036854775808 ≤ x) (h2 : x ≤ 9223372036854775807) : wrap64 x = x := by
 unfold wrap64; omega
theorem loop_ans {l0 : Nat → Int → Int → Option (Int × Int × Bool)} {okf : Int → Int → Option Bool}
  (hl : ∀ k x e, l0 (k + 1) x e = if (Int.tmod x 10) = 0 then (l0 k (wrap64 (Int.tdiv x 10)) (wrap64 (e + 1))) else ((okf x e).bind fun t => (if t = true then (some (x, e, true)) else (some (0, 0, false)))))
  (hok : ∀ x e, okf x e = some (decide (Ok x e))) :
  ∀ (n k : Nat) (x e : Int), n < k → x ≠ 0 → -(10 ^ n) < x → x < 10 ^ n → -9223372036854775808 ≤ x → x ≤ 9223372036854775807 → -64 ≤ e → e ≤ 1000 - n →
   ∃ r, l0 k x e = some r ∧ Ans (val x e) r := by
 intro n
 induction n with
 | zero => intro k x e _ h0 h1 h2; simp at h1 h2; omega
 | succ n ih =>
  intro k x e hk h0 h1 h2 h3 h4 he he2
  obtain ⟨k, rfl⟩ : ∃ m, k = m + 1 := ⟨k - 1, by omega⟩
  rw [hl]
  by_cases h : x % 10 = 0
  ·rw [if_pos ((tmod10 x).2 h)]
   have hd := tdiv10 x h
   rw [Int.pow_succ] at h1 h2
   generalize Int.tdiv x 10 = y at hd
   have hp := p10_pos n
   rw [wrap64_id (by omega) (by omega), wrap64_id (by omega) (by omega)]
   obtain ⟨r, hr, ha⟩ := ih k y (e + 1) (by omega) (by omega) (by omega) (by omega) (by omega) (by omega) (by omega) (by omega)
   refine ⟨r, hr, ?_⟩
   rwa [← hd, val_up _ _ he]
  ·rw [if_neg (fun h2 => h ((tmod10 x).1 h2)), hok, Option.bind_some]
   have := ans_self h he
   by_cases hO : Ok x e
   ·rw [if_pos (by simpa using hO)]; rw [if_pos hO] at this; exact ⟨_, rfl, this⟩
   ·rw [if_neg (by simpa using hO)]; rw [if_neg hO] at this; exact ⟨_, rfl, this⟩
def Forms (f : Nat → Int → Int → Option (Int × Int × Bool)) : Prop :=
 ∀ (k : Nat) (m e : Int), 20 ≤ k → -9223372036854775808 ≤ m → m ≤ 9223372036854775807 → -64 ≤ e → e ≤ 64 → ∃ r, f k m e = some r ∧ Ans (val m e) r
theorem forms_of {l0 f : Nat → Int → Int → Option (Int × Int × Bool)} {okf : Int → Int → Option Bool}
  (hl : ∀ k x e, l0 (k + 1) x e = if (Int.tmod x 10) = 0 then (l0 k (wrap64 (Int.tdiv x 10)) (wrap64 (e + 1))) else ((okf x e).bind fun t => (if t = true then (some (x, e, true)) else (some (0, 0, false)))))
  (hok : ∀ x e, okf x e = some (decide (Ok x e)))
  (hf : ∀ k m e, f k m e = if m = 0 then (some (0, 0, true)) else l0 k m e) : Forms f := by
 intro k m e hk h1 h2 he he2
 rw [hf]
 by_cases h : m = 0
 ·rw [if_pos h, h, val_zero]; exact ⟨_, rfl, .yes (.inl ⟨rfl, rfl⟩) (val_zero 0)⟩
 ·rw [if_neg h]
  exact loop_ans hl hok 19 k m e (by omega) h (by omega) (by omega) h1 h2 he (by omega)
theorem pow_mono {i j : Nat} (h : i ≤ j) : (10 : Int) ^ i ≤ 10 ^ j := by
 have := Nat.pow_le_pow_right (show 0 < 10 by decide) h
 have h2 : ((10 ^ i : Nat) : Int) ≤ ((10 ^ j : Nat) : Int) := by exact_mod_cast this
 simpa using h2
theorem sgn_cmp {aM aE bM bE : Int} (h1 : -64 ≤ bE) (h : bE ≤ aE) : (val aM aE < val bM bE ↔ aM * 10 ^ (aE - bE).toNat < bM) ∧ (val bM bE < val aM aE ↔ bM < aM * 10 ^ (aE - bE).toNat) := by
 have e : val aM aE = val (aM * 10 ^ (aE - bE).toNat) bE := by
  rw [val_shift _ _ _ h1, show bE + ((aE - bE).toNat : Int) = aE by omega]
 rw [e]
 exact ⟨val_lt, val_lt⟩
theorem mul_p10_le (x : Int) (hx : 0 ≤ x) (i d : Nat) : x * 10 ^ i ≤ x * 10 ^ (i + d) := by
 rw [Int.pow_add, ← Int.mul_assoc]
 have hp : (1 : Int) ≤ 10 ^ d := by have := p10_pos d; omega
 have := Int.mul_le_mul_of_nonneg_left hp (show 0 ≤ x * 10 ^ i from Int.mul_nonneg hx (Int.le_of_lt (p10_pos i)))
 omega
end Go.Proofs.YtoajejdicfabmaaDoor.Th
