import Derived.Test.YtoajejdicfabmaaDoorBFnValueOkDw
import Derived.Test.YtoajejdicfabmaaDoorBFnValueOkq4
namespace Go.Proofs.YtoajejdicfabmaaDoor.Lk
set_option linter.unusedVariables false
set_option linter.unusedSimpArgs false
open Go.RowKit Go.Proofs.YtoajejdicfabmaaDoor.Q Go.Proofs.YtoajejdicfabmaaDoor.Evs Go.Proofs.YtoajejdicfabmaaDoor.Th Go.Proofs.YtoajejdicfabmaaDoor.Tv Go.Proofs.YtoajejdicfabmaaDoor.Vo Go.Proofs.YtoajejdicfabmaaDoor.Dw Go.Proofs.YtoajejdicfabmaaDoorW.PrintWords Go.Proofs.YtoajejdicfabmaaDoorW.PrintLast
theorem Evn.uniq {α : Type} {g : Nat → Option α} {a b : α} (h : Evn g a) (h' : Evn g b) : a = b := by
 obtain ⟨n, h⟩ := h
 obtain ⟨m, h'⟩ := h'
 have := (h (n + m) (by omega)).symm.trans (h' (n + m) (by omega))
 exact Option.some.inj this
/-! ### sizes -/
def ss : Nat → S33 → Int
 | 0, _ => 0
 | n + 1, z => z.f3.foldl (fun a y => wrap64 (a + ss n y)) 1
theorem iS_l0 (n : Nat) (xs : List S33) (hlen : xs.length ≤ 1048576) (ih : ∀ y, y ∈ xs → Evn (fun k => iS k y) (ss n y)) :
  ∀ (d i : Nat) (m : Int), i + d = xs.length → Evn (fun k => impl_ValueSize.l0 k m xs (xs.length : Int) (i : Int)) ((xs.drop i).foldl (fun a y => wrap64 (a + ss n y)) m)
 | 0, i, m, hd => by
  rw [List.drop_eq_nil_of_le (by omega)]
  exact Evn.step (g' := fun _ => some m) (fun k => by rw [impl_ValueSize.l0, if_neg (by omega)]) (Evn.pure _)
 | d + 1, i, m, hd => by
  have hi : i < xs.length := by omega
  have key' : ∀ k, impl_ValueSize.l0 (k + 1) m xs (xs.length : Int) (i : Int) = (iS k xs[i]).bind fun t => impl_ValueSize.l0 k (wrap64 (m + t)) xs (xs.length : Int) ((i + 1 : Nat) : Int) := by
   intro k
   rw [impl_ValueSize.l0, if_pos (by omega), if_pos (by omega), if_pos (by omega), w1 i (by omega)]
   simp only [rd_T33, getD_nat _ _ _ hi]
  rw [Vo.drop_get xs i hi]
  exact Evn.step key' (Evn.bind (ih _ (List.getElem_mem hi)) (iS_l0 n xs hlen ih d (i + 1) _ (by omega)))
theorem iS_ev : ∀ (n : Nat) (x : S33), Lo n x → Evn (fun k => iS k x) (ss n x)
 | 0, _, hf => hf.elim
 | n + 1, x, ⟨hl, hk, _⟩ => by
  have h := iS_l0 n x.f3 hl (fun y hy => iS_ev n y (hk y hy)) x.f3.length 0 1 (by omega)
  rw [List.drop_zero] at h
  exact Evn.step (fun k => by show impl_ValueSize.f (k + 1) _ _ _ _ _ _ = _; rw [impl_ValueSize.f]; rfl) h
theorem sS_ev (n : Nat) (x : S33) (h : Lo n x) : Evn (fun k => sS k x) (ss n x) := by
 obtain ⟨r, h1, h2⟩ := Tv.size_ev n x h
 rw [Evn.uniq (iS_ev n x h) h2]
 exact h1
theorem fold_le (f : S33 → Int) (B : Nat) : ∀ (xs : List S33) (m : Int), (∀ y, y ∈ xs → 0 ≤ f y ∧ f y ≤ B) → 0 ≤ m → m + xs.length * B ≤ 1000000 →
  0 ≤ xs.foldl (fun a y => wrap64 (a + f y)) m ∧ xs.foldl (fun a y => wrap64 (a + f y)) m ≤ m + xs.length * B
 | [], m, _, h0, _ => by simp; exact h0
 | y :: ys, m, h, h0, h1 => by
  have hy := h y (List.mem_cons_self ..)
  have e1 : ((y :: ys).length : Int) * (B : Int) = ys.length * B + B := by rw [List.length_cons, Int.natCast_add, Int.add_mul]; simp
  rw [e1] at h1 ⊢
  have hc : (0 : Int) ≤ ys.length * B := Int.mul_nonneg (by omega) (by omega)
  have hw : wrap64 (m + f y) = m + f y := wrap64_id (by omega) (by omega)
  have := fold_le f B ys (m + f y) (fun u hu => h u (List.mem_cons_of_mem _ hu)) (by omega) (by omega)
  rw [List.foldl_cons, hw]
  omega
def K : Nat → Nat
 | 0 => 0
 | d + 1 => 3 * K d + 1
theorem ss_le : ∀ (d : Nat) (z : S33), d ≤ 4 → Dv d z → 0 ≤ ss d z ∧ ss d z ≤ K d
 | 0, _, _, h => h.elim
 | d + 1, z, hd, ⟨hN, hk⟩ => by
  have hK : K d ≤ 13 := by
   have : d = 0 ∨ d = 1 ∨ d = 2 ∨ d = 3 := by omega
   rcases this with rfl | rfl | rfl | rfl <;> decide
  have hl := hN.2.2.2.1
  have hm : (z.f3.length : Int) * K d ≤ 3 * K d := Int.mul_le_mul_of_nonneg_right (by omega) (by omega)
  have h := fold_le (ss d) (K d) z.f3 1 (fun y hy => ss_le d y (by omega) (hk y hy)) (by omega) (by omega)
  have e : (K (d + 1) : Int) = 3 * K d + 1 := by simp [K]
  rw [e]
  exact ⟨h.1, Int.le_trans h.2 (by omega)⟩
theorem wrapped_out : ∀ (n : Nat) (z : S33), wrapped (n + 1) z = ⟨5, ⟨0, 0⟩, ⟨#[]⟩, [wrapped n z], []⟩
 | 0, _ => rfl
 | n + 1, z => by rw [wrapped, wrapped_out n]; rfl
theorem ss_wrapped : ∀ (n d : Nat) (z : S33), n ≤ 100 → 0 ≤ ss d z → ss d z ≤ 40 → 0 ≤ ss (d + n) (wrapped n z) ∧ ss (d + n) (wrapped n z) ≤ 40 + n
 | 0, d, z, _, h0, h1 => ⟨h0, by show ss d z ≤ _; omega⟩
 | n + 1, d, z, hn, h0, h1 => by
  have := ss_wrapped n d z (by omega) h0 h1
  rw [wrapped_out, show d + (n + 1) = d + n + 1 by omega]
  show 0 ≤ wrap64 (1 + ss (d + n) (wrapped n z)) ∧ wrap64 (1 + ss (d + n) (wrapped n z)) ≤ _
  rw [wrap64_id (by omega) (by omega)]
  omega
theorem any_lo (z : S33) (h : Any z) : ∃ n, n ≤ 30 ∧ Lo (n + 1) z ∧ ∀ y, y ∈ z.f3 → 0 ≤ ss n y ∧ ss n y ≤ 200 := by
 rcases h with ⟨hN, hk⟩ | ⟨y, hy, rfl⟩
 ·refine ⟨3, by omega, ⟨by have := hN.2.2.2.1; omega, fun y hy => (hk y hy).lo, by have := hN.2.2.2.2.1; omega, fun s hs => by have := hN.2.2.2.2.2 s hs; omega⟩, fun y hy => ?_⟩
  have := ss_le 3 y (by omega) (hk y hy)
  have e : K 3 = 13 := by decide
  omega
 ·refine ⟨23, by omega, (wrapped_dv 20 4 y hy).lo, fun u hu => ?_⟩
  have h4 := ss_le 4 y (by omega) hy
  have e : K 4 = 40 := by decide
  rw [wrapped_out] at hu
  simp at hu
  rw [hu]
  have := ss_wrapped 19 4 y (by omega) h4.1 (by omega)
  exact ⟨this.1, Int.le_trans this.2 (by omega)⟩
/-! ### ValueOk -/
def rok (n : Nat) (z : S33) : Bool := decide (ss n z ≤ 200) && (decide (dp n z ≤ 20) && A n z)
theorem ok2_ev (n : Nat) (hn : n ≤ 2000000) (z : S33) (h : Lo n z) : Evn (fun k => spec_ValueOk.f k z.f0 z.f1.f0 z.f1.f1 z.f2 z.f3 z.f4) (rok n z) ∧ Evn (fun k => impl_ValueOk.f k z.f0 z.f1.f0 z.f1.f1 z.f2 z.f3 z.f4 [Nm.words]) (rok n z) := by
 have ht := sS_ev n z h
 have ht' := iS_ev n z h
 unfold rok
 generalize ss n z = t at *
 have hd := deep_ev n z hn h
 have ha := all_ev n z h
 have hv := vk_ev n 20 z (by omega) h
 rw [I_eq n 20 z h] at hv
 constructor
 ·unfold spec_ValueOk.f
  refine Evn.bind ht ?_
  by_cases c : t ≤ 200
  ·rw [decide_eq_true c, Bool.true_and]
   refine Evn.ite_pos c (Evn.bind hd ?_)
   by_cases c2 : dp n z ≤ 20
   ·rw [decide_eq_true c2, Bool.true_and]
    exact Evn.ite_pos (by omega) (Evn.bind ha (Evn.pure _))
   ·rw [decide_eq_false c2, Bool.false_and]
    exact Evn.ite_neg (by omega) (Evn.pure _)
  ·rw [decide_eq_false c, Bool.false_and]
   exact Evn.ite_neg c (Evn.pure _)
 ·unfold impl_ValueOk.f
  rw [Bool.and_comm (decide (dp n z ≤ 20)), Bool.and_comm]
  refine Evn.bind hv ?_
  by_cases c : (A n z && decide (dp n z ≤ 20)) = true
  ·rw [c, Bool.true_and]
   exact Evn.ite_pos rfl (Evn.bind ht' (Evn.pure _))
  ·rw [Bool.eq_false_iff.2 c, Bool.false_and]
   exact Evn.ite_neg (by decide) (Evn.pure _)
theorem rok_sub (n : Nat) (z : S33) (h : rok (n + 1) z = true) (y : S33) (hy : y ∈ z.f3) (hs : ss n y ≤ 200) : rok n y = true := by
 unfold rok at h ⊢
 rw [Bool.and_eq_true, Bool.and_eq_true] at h
 obtain ⟨_, h1, h2⟩ := h
 have h1 := of_decide_eq_true h1
 unfold dp at h1
 unfold A at h2
 rw [Bool.and_eq_true, List.all_eq_true] at h2
 have hm := (mx_le (dp n) z.f3 0 19).1 (by omega)
 have := hm.2 y hy
 rw [h2.2 y hy, decide_eq_true hs, decide_eq_true (show dp n y ≤ 20 by omega)]
 rfl
/-! ### the law -/
theorem law_l0 (n : Nat) (hn : n ≤ 30) (z : S33) (hz : Lo (n + 1) z) (hs : ∀ y, y ∈ z.f3 → ss n y ≤ 200) : ∀ (d i : Nat) (m : Int), i + d = z.f3.length → (z.f3.drop i).foldl (fun a y => wrap64 (a + ss n y)) m = ss (n + 1) z →
  Evn (fun k => laws_FnValueOk.l0 k (rok (n + 1) z) m (i : Int) [Nm.words] z.f0 z.f1.f0 z.f1.f1 z.f2 z.f3 z.f4) true
 | 0, i, m, hd, hm => by
  rw [List.drop_eq_nil_of_le (by omega)] at hm
  have hm : m = ss (n + 1) z := hm
  refine Evn.step (fun k => by rw [laws_FnValueOk.l0, if_neg (by omega)]) (Evn.bind (iS_ev (n + 1) z hz) (Evn.ite_pos hm.symm ?_))
  by_cases c : rok (n + 1) z = true
  ·refine Evn.ite_pos c ?_
   have c' := c
   unfold rok at c'
   rw [Bool.and_eq_true] at c'
   rw [hm, c'.1]
   exact Evn.pure _
  ·exact Evn.ite_neg c (Evn.pure _)
 | d + 1, i, m, hd, hm => by
  have hi : i < z.f3.length := by omega
  have hlen := hz.1
  rw [Vo.drop_get z.f3 i hi] at hm
  have ih := law_l0 n hn z hz hs d (i + 1) (wrap64 (m + ss n z.f3[i])) (by omega) hm
  rw [← w1 i (by omega)] at ih
  have hy : Lo n z.f3[i] := hz.2.1 _ (List.getElem_mem hi)
  have e : rd_T33 z.f3 (i : Int) = z.f3[i] := by simp only [rd_T33, getD_nat _ _ _ hi]
  refine Evn.step (fun k => by rw [laws_FnValueOk.l0, if_pos (by omega), if_pos (by omega), e]) (Evn.bind (iS_ev n _ hy) ?_)
  by_cases c : rok (n + 1) z = true
  ·have h1 := (ok2_ev n (by omega) _ hy).2
   rw [rok_sub n z c _ (List.getElem_mem hi) (hs _ (List.getElem_mem hi))] at h1
   exact Evn.ite_pos c (Evn.bind h1 (Evn.ite_pos rfl ih))
  ·exact Evn.ite_neg c ih
theorem law (l : List Int) (hl : Bytes l) : Evn (fun k => laws_FnValueOk.f k l [Nm.words]) true := by
 unfold laws_FnValueOk.f
 by_cases c : (l.length : Int) > 1048576
 ·exact Evn.ite_pos c (Evn.pure _)
 refine Evn.ite_neg c ?_
 obtain ⟨m, hm, hB, hlen⟩ := opened l hl
 obtain ⟨z, q, hz, hA, _⟩ := any_ev hB hlen 0 (by omega) (by omega)
 have hD : Evn (fun k => spec_DrawValueOk.f k l) (tup z) := by
  unfold spec_DrawValueOk.f
  exact Evn.bind (g := fun _ => spec_l1Open.f l) ⟨0, fun _ _ => hm⟩ (Evn.bind hz (Evn.pure _))
 obtain ⟨n, hn, hL, hs⟩ := any_lo z hA
 have hO := ok2_ev (n + 1) (by omega) z hL
 have hI := iS_ev (n + 1) z hL
 refine Evn.bind hD (Evn.bind hO.2 (Evn.bind hO.1 (Evn.ite_neg (by simp) (Evn.bind hI (Evn.bind (sS_ev (n + 1) z hL) ?_)))))
 refine Evn.step (fun k => by rw [laws_FnValueOk.j0, if_neg (by simp)]) ?_
 exact law_l0 n hn z hL (fun y hy => (hs y hy).2) z.f3.length 0 1 (by omega) (by rw [List.drop_zero]; rfl)
end Go.Proofs.YtoajejdicfabmaaDoor.Lk
