import Derived.Test.YthaceblepbkjjaaDoorBFnExactIniPutVss
import Derived.Test.YthaceblepbkjjaaDoorBFnExactIniPutq4
namespace Go.Proofs.YthaceblepbkjjaaDoor.Tv
set_option linter.unusedVariables false
set_option linter.unusedSimpArgs false
open Go.RowKit Go.Proofs.YthaceblepbkjjaaDoor.Q Go.Proofs.YthaceblepbkjjaaDoor.Evs Go.Proofs.YthaceblepbkjjaaDoorW.PrintWords Go.Proofs.YthaceblepbkjjaaDoorW.PrintLast

/-! Trees: what the printed functions answer, by the depth of the tree. -/
def Fine : Nat → S27 → Prop
 | 0, _ => False
 | n + 1, x => x.f2.size ≤ 9223372036854775807 ∧ x.f3.length ≤ 9223372036854775807 ∧ (∀ y, y ∈ x.f3 → Fine n y) ∧ x.f4.length ≤ 9223372036854775807 ∧ ∀ s, s ∈ x.f4 → s.size ≤ 9223372036854775807
def Low : Nat → S27 → Prop
 | 0, _ => False
 | n + 1, x => x.f3.length ≤ 1048576 ∧ (∀ y, y ∈ x.f3 → Low n y) ∧ x.f4.length ≤ 1048576 ∧ ∀ s, s ∈ x.f4 → s.size ≤ 9223372036854775807
theorem Low.up : ∀ (n : Nat) (x : S27), Low n x → ∀ m, n ≤ m → Low m x
 | 0, _, h, _, _ => h.elim
 | n + 1, x, ⟨h1, h2, h3, h4⟩, m, hm => by
  obtain ⟨j, rfl⟩ : ∃ j, m = j + 1 := ⟨m - 1, by omega⟩
  exact ⟨h1, fun y hy => Low.up n y (h2 y hy) j (by omega), h3, h4⟩
def Lo : Nat → S34 → Prop
 | 0, _ => False
 | n + 1, x => x.f3.length ≤ 1048576 ∧ (∀ y, y ∈ x.f3 → Lo n y) ∧ x.f4.length ≤ 1048576 ∧ ∀ s, s ∈ x.f4 → s.size ≤ 9223372036854775807
/-- How many values, down to a depth. -/
def sumC {α : Type} (f : α → Nat) : List α → Nat
 | [] => 0
 | y :: ys => f y + sumC f ys
def cL : Nat → S27 → Nat
 | 0, _ => 0
 | n + 1, x => 1 + sumC (cL n) x.f3
def cI : Nat → S34 → Nat
 | 0, _ => 0
 | n + 1, x => 1 + sumC (cI n) x.f3
theorem sumC_le {α β : Type} (f : α → Nat) (g : β → Nat) : ∀ (xs : List α) (ys : List β), ys.length = xs.length → (∀ j (h1 : j < ys.length) (h2 : j < xs.length), g ys[j] ≤ f xs[j]) → sumC g ys ≤ sumC f xs
 | [], [], _, _ => Nat.le_refl _
 | [], _ :: _, h, _ => by simp at h
 | _ :: _, [], h, _ => by simp at h
 | x :: xs, y :: ys, h, hj => by
  have h0 := hj 0 (by simp) (by simp)
  have ih := sumC_le f g xs ys (by simpa using h) (fun j h1 h2 => hj (j + 1) (by simpa using h1) (by simpa using h2))
  simp only [List.getElem_cons_zero] at h0
  show g y + sumC g ys ≤ f x + sumC f xs
  omega
theorem w1 (i : Nat) (h : i ≤ 1048576) : wrap64 ((i : Int) + 1) = ((i + 1 : Nat) : Int) := by
 rw [w64 _ (by omega)]; omega
abbrev sz (k : Nat) (x : S27) (l : Int) := laws_szValue.f k x.f0 x.f1.f0 x.f1.f1 x.f2 x.f3 x.f4 l
abbrev cp (k : Nat) (x : S27) := laws_toValue.f k x.f0 x.f1.f0 x.f1.f1 x.f2 x.f3 x.f4
abbrev eq (k : Nat) (x y : S34) := laws_eqValue.f k x.f0 x.f1.f0 x.f1.f1 x.f2 x.f3 x.f4 y.f0 y.f1.f0 y.f1.f1 y.f2 y.f3 y.f4
abbrev sS (k : Nat) (x : S34) := spec_ValueSize.f k x.f0 x.f1.f0 x.f1.f1 x.f2 x.f3 x.f4
abbrev iS (k : Nat) (x : S34) := impl_ValueSize.f k x.f0 x.f1.f0 x.f1.f1 x.f2 x.f3 x.f4
abbrev tup (y : S34) : Int × Int × Int × ByteArray × List S34 × List ByteArray := (y.f0, y.f1.f0, y.f1.f1, y.f2, y.f3, y.f4)

/-! ### the budget: what is left, and how deep it can be -/
theorem sz_l0 (xs : List S27) (hlen : xs.length ≤ 1048576) (ih : ∀ y, y ∈ xs → ∀ l : Int, 0 ≤ l → l ≤ 1048576 → ∃ r, Evn (fun k => sz k y l) r ∧ r ≤ l ∧ (0 ≤ r → (∃ m : Nat, (m : Int) ≤ l - r + 1 ∧ Low m y) ∧ ∀ M, (cL M y : Int) ≤ l - r + 1)) :
  ∀ (d i : Nat) (l : Int), i + d = xs.length → 0 ≤ l → l ≤ 1048576 → ∃ r, Evn (fun k => laws_szValueS.l0 k xs l (i : Int)) r ∧ r ≤ l ∧ (0 ≤ r → (∀ j (h : j < xs.length), i ≤ j → ∃ m : Nat, (m : Int) ≤ l - r + 1 ∧ Low m xs[j]) ∧ ∀ M, (sumC (cL M) (xs.drop i) : Int) ≤ l - r + d)
 | 0, i, l, hd, h0, h1 => ⟨l, Evn.step (g' := fun _ => some l) (fun k => by rw [laws_szValueS.l0, if_neg (by omega)]) (Evn.pure _), by omega, fun _ => ⟨fun j h hj => by omega, fun M => by rw [List.drop_eq_nil_of_le (by omega)]; show ((0 : Nat) : Int) ≤ _; omega⟩⟩
 | d + 1, i, l, hd, h0, h1 => by
  have hi : i < xs.length := by omega
  obtain ⟨t, ht, htl, htL⟩ := ih xs[i] (List.getElem_mem hi) l h0 h1
  have key : ∀ k, laws_szValueS.l0 (k + 1) xs l (i : Int) = (sz k xs[i] l).bind fun t => if t < 0 then some (-1) else laws_szValueS.l0 k xs t ((i + 1 : Nat) : Int) := by
   intro k
   rw [laws_szValueS.l0, if_pos (by omega), if_pos (by omega), w1 i (by omega)]
   simp only [rd_T27, getD_nat _ _ _ hi]
  by_cases c : t < 0
  ·exact ⟨-1, Evn.step key (Evn.bind ht (Evn.ite_pos c (Evn.pure _))), by omega, by omega⟩
  ·obtain ⟨r, hr, hrl, hrL⟩ := sz_l0 xs hlen ih d (i + 1) t (by omega) (by omega) (by omega)
   refine ⟨r, Evn.step key (Evn.bind ht (Evn.ite_neg c hr)), by omega, fun hr0 => ⟨fun j h hj => ?_, fun M => ?_⟩⟩
   ·rcases Nat.lt_or_ge i j with hlt | hge
    ·obtain ⟨m, hm, hL⟩ := (hrL hr0).1 j h (by omega)
     exact ⟨m, by omega, hL⟩
    ·obtain rfl : j = i := by omega
     obtain ⟨m, hm, hL⟩ := (htL (by omega)).1
     exact ⟨m, by omega, hL⟩
   ·have a1 := (hrL hr0).2 M
    have a2 := (htL (by omega)).2 M
    rw [List.drop_eq_getElem_cons hi]
    show ((cL M xs[i] + sumC (cL M) (xs.drop (i + 1)) : Nat) : Int) ≤ _
    omega
theorem sz_ev : ∀ (n : Nat) (x : S27), Fine n x → ∀ l : Int, 0 ≤ l → l ≤ 1048576 → ∃ r, Evn (fun k => sz k x l) r ∧ r ≤ l ∧ (0 ≤ r → (∃ m : Nat, (m : Int) ≤ l - r + 1 ∧ Low m x) ∧ ∀ M, (cL M x : Int) ≤ l - r + 1)
 | 0, _, hf, _, _, _ => hf.elim
 | n + 1, x, ⟨hs, hl, hk, hn, hns⟩, l, h0, h1 => by
  have e1 : wrap64 (l - (x.f2.size : Int)) = l - (x.f2.size : Int) := w64 _ (by omega)
  have key : ∀ k, sz (k + 1) x l = if l - (x.f2.size : Int) < 0 then some (-1) else (laws_szValueS.f k x.f3 (l - (x.f2.size : Int))).bind fun t => if t < 0 then some (-1) else (laws_szStringS.f k x.f4 t).bind fun t => if t < 0 then some (-1) else some t := by
   intro k
   show laws_szValue.f (k + 1) _ _ _ _ _ _ _ = _
   rw [laws_szValue.f, e1]
  by_cases c : l - (x.f2.size : Int) < 0
  ·exact ⟨-1, Evn.step key (Evn.ite_pos c (Evn.pure _)), by omega, by omega⟩
  generalize hm : l - (x.f2.size : Int) = m at key c
  have e2 : wrap64 (m - (x.f3.length : Int)) = m - (x.f3.length : Int) := w64 _ (by omega)
  have key2 : ∀ k, laws_szValueS.f (k + 1) x.f3 m = if m - (x.f3.length : Int) < 0 then some (-1) else laws_szValueS.l0 k x.f3 (m - (x.f3.length : Int)) ((0 : Nat) : Int) := by
   intro k
   rw [laws_szValueS.f, e2]; rfl
  by_cases c2 : m - (x.f3.length : Int) < 0
  ·exact ⟨-1, Evn.step key (Evn.ite_neg c (Evn.bind (Evn.step key2 (Evn.ite_pos c2 (Evn.pure _))) (Evn.ite_pos (by decide) (Evn.pure _)))), by omega, by omega⟩
  obtain ⟨r, hr, hrl, hrL⟩ := sz_l0 x.f3 (by omega) (fun y hy => sz_ev n y (hk y hy)) x.f3.length 0 (m - (x.f3.length : Int)) (by omega) (by omega) (by omega)
  by_cases c3 : r < 0
  ·exact ⟨-1, Evn.step key (Evn.ite_neg c (Evn.bind (Evn.step key2 (Evn.ite_neg c2 hr)) (Evn.ite_pos c3 (Evn.pure _)))), by omega, by omega⟩
  obtain ⟨q, hq, hql, hqL⟩ := Ss.sz_ev x.f4 hn hns r (by omega) (by omega)
  by_cases c4 : q < 0
  ·exact ⟨-1, Evn.step key (Evn.ite_neg c (Evn.bind (Evn.step key2 (Evn.ite_neg c2 hr)) (Evn.ite_neg c3 (Evn.bind hq (Evn.ite_pos c4 (Evn.pure _)))))), by omega, by omega⟩
  ·refine ⟨q, Evn.step key (Evn.ite_neg c (Evn.bind (Evn.step key2 (Evn.ite_neg c2 hr)) (Evn.ite_neg c3 (Evn.bind hq (Evn.ite_neg c4 (Evn.pure _)))))), by omega, fun h => ?_⟩
   have hn2 := hqL (by omega)
   refine ⟨?_, fun M => ?_⟩
   rotate_left
   ·cases M with
    | zero => show ((0 : Nat) : Int) ≤ _; omega
    | succ M =>
     have := (hrL (by omega)).2 M
     rw [List.drop_zero] at this
     show ((1 + sumC (cL M) x.f3 : Nat) : Int) ≤ _
     omega
   by_cases he : x.f3.length = 0
   ·refine ⟨1, by omega, by omega, fun y hy => ?_, hn2, hns⟩
    have := List.length_pos_iff_exists_mem.2 ⟨y, hy⟩
    omega
   ·refine ⟨(m - (x.f3.length : Int) - r + 1).toNat + 1, by omega, by omega, fun y hy => ?_, hn2, hns⟩
    obtain ⟨j, hj, rfl⟩ := List.getElem_of_mem hy
    obtain ⟨m2, hm2, hL⟩ := (hrL (by omega)).1 j hj (by omega)
    exact Low.up m2 _ hL _ (by omega)

/-! ### the copy -/
theorem texts_l0 (xs : List ByteArray) (hlen : xs.length ≤ 1048576) :
  ∀ (d i : Nat) (ys : List ByteArray), i + d = xs.length → ys.length = xs.length → (∀ j (h1 : j < ys.length) (h2 : j < xs.length), j < i → ys[j] = xs[j]) → Evn (fun k => laws_toStringS.l0 k xs ys (i : Int)) xs
 | 0, i, ys, hd, hy, hc => by
  have e : ys = xs := List.ext_getElem hy (fun j h1 h2 => hc j h1 h2 (by omega))
  subst e
  exact Evn.step (g' := fun _ => some ys) (fun k => by rw [laws_toStringS.l0, if_neg (by omega)]) (Evn.pure _)
 | d + 1, i, ys, hd, hy, hc => by
  have hi : i < xs.length := by omega
  refine Evn.step (fun k => ?_) (texts_l0 xs hlen d (i + 1) (ys.set i xs[i]) (by omega) (by simp [hy]) (fun j h1 h2 hj => ?_))
  ·rw [laws_toStringS.l0, if_pos (by omega), if_pos (by omega), if_pos (by omega), w1 i (by omega)]
   simp only [rdOf, getD_nat _ _ _ hi]
   rw [Int.toNat_natCast]
  ·rw [List.getElem_set]
   by_cases e : i = j
   ·subst e; rw [if_pos rfl]
   ·rw [if_neg e]; exact hc j (by simpa using h1) h2 (by omega)
theorem texts (xs : List ByteArray) (hlen : xs.length ≤ 1048576) : Evn (fun k => laws_toStringS.f k xs) xs := by
 refine Evn.of (fun k => ?_) (texts_l0 xs hlen xs.length 0 (List.replicate xs.length (⟨#[]⟩ : ByteArray)) (by omega) (by simp) (fun j _ _ hj => by omega))
 rw [laws_toStringS.f, if_pos (by omega), if_pos (by omega)]
 rfl

theorem to_l0 {n : Nat} (xs : List S27) (hlen : xs.length ≤ 1048576) (ih : ∀ y, y ∈ xs → ∃ z, Evn (fun k => cp k y) (tup z) ∧ Lo n z ∧ ∀ M, cI M z ≤ cL M y) :
  ∀ (d i : Nat) (ys : List S34), i + d = xs.length → ys.length = xs.length → (∀ j (h : j < ys.length) (h2 : j < xs.length), j < i → Lo n ys[j] ∧ ∀ M, cI M ys[j] ≤ cL M xs[j]) → ∃ r, Evn (fun k => laws_toValueS.l0 k xs ys (i : Int)) r ∧ r.length = xs.length ∧ (∀ z, z ∈ r → Lo n z) ∧ ∀ M, sumC (cI M) r ≤ sumC (cL M) xs
 | 0, i, ys, hd, hy, hL => ⟨ys, Evn.step (g' := fun _ => some ys) (fun k => by rw [laws_toValueS.l0, if_neg (by omega)]) (Evn.pure _), hy, fun z hz => by
   obtain ⟨j, hj, rfl⟩ := List.getElem_of_mem hz
   exact (hL j hj (by omega) (by omega)).1, fun M => sumC_le _ _ _ _ hy fun j h1 h2 => (hL j h1 h2 (by omega)).2 M⟩
 | d + 1, i, ys, hd, hy, hL => by
  have hi : i < xs.length := by omega
  obtain ⟨z, hz, hzL, hzC⟩ := ih xs[i] (List.getElem_mem hi)
  have key : ∀ k, laws_toValueS.l0 (k + 1) xs ys (i : Int) = (cp k xs[i]).bind fun b => laws_toValueS.l0 k xs (ys.set i (⟨b.1, (⟨b.2.1, b.2.2.1⟩ : S31), b.2.2.2.1, b.2.2.2.2.1, b.2.2.2.2.2⟩ : S34)) ((i + 1 : Nat) : Int) := by
   intro k
   rw [laws_toValueS.l0, if_pos (by omega), if_pos (by omega), w1 i (by omega)]
   simp only [rd_T27, getD_nat _ _ _ hi]
   rw [Int.toNat_natCast]
   exact congrArg (Option.bind _) (funext fun b => if_pos (by omega))
  obtain ⟨r, hr, hrl, hrL⟩ := to_l0 (n := n) xs hlen ih d (i + 1) (ys.set i z) (by omega) (by simp [hy]) (fun j h h2 hj => by
   rw [List.getElem_set]
   by_cases e : i = j
   ·subst e; rw [if_pos rfl]; exact ⟨hzL, hzC⟩
   ·rw [if_neg e]; exact hL j (by simpa using h) h2 (by omega))
  have ez : (⟨z.f0, (⟨z.f1.f0, z.f1.f1⟩ : S31), z.f2, z.f3, z.f4⟩ : S34) = z := by
   cases z with
   | mk a b c d e => cases b; rfl
  rw [← ez] at hr
  exact ⟨r, Evn.step key (Evn.bind hz hr), hrl, hrL⟩
theorem to_ev : ∀ (n : Nat) (x : S27), Low n x → ∃ z, Evn (fun k => cp k x) (tup z) ∧ Lo n z ∧ ∀ M, cI M z ≤ cL M x
 | 0, _, hf => hf.elim
 | n + 1, x, ⟨hl, hk, hn, hns⟩ => by
  have key : ∀ k, cp (k + 1) x = (laws_toValueS.f k x.f3).bind fun t => (laws_toStringS.f k x.f4).bind fun u => some (x.f0, x.f1.f0, x.f1.f1, x.f2, t, u) := by
   intro k
   show laws_toValue.f (k + 1) _ _ _ _ _ _ = _
   rw [laws_toValue.f]
   simp only [laws_toDec.f, Option.bind_some]
  have key2 : ∀ k, laws_toValueS.f (k + 1) x.f3 = laws_toValueS.l0 k x.f3 (List.replicate x.f3.length z34) ((0 : Nat) : Int) := by
   intro k
   rw [laws_toValueS.f, if_pos (by omega), if_pos (by omega)]
   rfl
  obtain ⟨r, hr, hrl, hrL⟩ := to_l0 (n := n) x.f3 hl (fun y hy => to_ev n y (hk y hy)) x.f3.length 0 (List.replicate x.f3.length z34) (by omega) (by simp) (fun j h h2 hj => by omega)
  have hu := texts x.f4 hn
  exact ⟨⟨x.f0, ⟨x.f1.f0, x.f1.f1⟩, x.f2, r, x.f4⟩, Evn.step key (Evn.bind (Evn.step key2 hr) (Evn.bind hu (Evn.pure _))), ⟨(by show r.length ≤ _; omega), hrL.1, hn, hns⟩, fun M => by
   cases M with
   | zero => exact Nat.le_refl _
   | succ M => have := hrL.2 M; show 1 + sumC (cI M) r ≤ 1 + sumC (cL M) x.f3; omega⟩

/-! ### a tree is like itself -/
theorem eq_l0 (xs : List S34) (hlen : xs.length ≤ 1048576) (ih : ∀ y, y ∈ xs → Evn (fun k => eq k y y) true) :
  ∀ (d i : Nat), i + d = xs.length → Evn (fun k => laws_eqValueS.l0 k xs xs (i : Int)) true
 | 0, i, hd => Evn.step (g' := fun _ => some true) (fun k => by rw [laws_eqValueS.l0, if_neg (by omega)]) (Evn.pure _)
 | d + 1, i, hd => by
  have hi : i < xs.length := by omega
  have key : ∀ k, laws_eqValueS.l0 (k + 1) xs xs (i : Int) = (eq k xs[i] xs[i]).bind fun t => if t = true then laws_eqValueS.l0 k xs xs ((i + 1 : Nat) : Int) else some false := by
   intro k
   rw [laws_eqValueS.l0, if_pos (by omega), if_pos (by omega), if_pos (by omega), w1 i (by omega)]
   simp only [rd_T34, getD_nat _ _ _ hi]
  exact Evn.step key (Evn.bind (ih xs[i] (List.getElem_mem hi)) (Evn.ite_pos rfl (eq_l0 xs hlen ih d (i + 1) (by omega))))
theorem eq_ev : ∀ (n : Nat) (x : S34), Lo n x → Evn (fun k => eq k x x) true
 | 0, _, hf => hf.elim
 | n + 1, x, ⟨hl, hk, hn, _⟩ => by
  have key : ∀ k, eq (k + 1) x x = (laws_eqValueS.f k x.f3 x.f3).bind fun t => if t = true then (laws_eqStringS.f k x.f4 x.f4).bind fun t => if t = true then some true else some false else some false := by
   intro k
   show laws_eqValue.f (k + 1) _ _ _ _ _ _ _ _ _ _ _ _ = _
   rw [laws_eqValue.f, if_pos rfl, if_pos rfl]
   simp only [laws_eqDec.f, if_true, Option.bind_some]
  have key2 : ∀ k, laws_eqValueS.f (k + 1) x.f3 x.f3 = laws_eqValueS.l0 k x.f3 x.f3 ((0 : Nat) : Int) := by
   intro k
   rw [laws_eqValueS.f, if_pos rfl]
   rfl
  exact Evn.step key (Evn.bind (Evn.step key2 (eq_l0 x.f3 hl (fun y hy => eq_ev n y (hk y hy)) x.f3.length 0 (by omega))) (Evn.ite_pos rfl (Evn.bind (Ss.eq_ev x.f4 hn) (Evn.ite_pos rfl (Evn.pure _)))))

/-! ### ValueSize -/
theorem size_l0 (a b c : Int) (s : ByteArray) (xs : List S34) (ns : List ByteArray) (hlen : xs.length ≤ 1048576) (ih : ∀ y, y ∈ xs → ∃ r, Evn (fun k => sS k y) r ∧ Evn (fun k => iS k y) r) :
  ∀ (d i : Nat) (m : Int), i + d = xs.length → ∃ r, Evn (fun k => spec_ValueSize.l0 k m (i : Int) a b c s xs ns) r ∧ Evn (fun k => impl_ValueSize.l0 k m xs (xs.length : Int) (i : Int)) r
 | 0, i, m, hd => ⟨m, Evn.step (g' := fun _ => some m) (fun k => by rw [spec_ValueSize.l0, if_neg (by omega)]) (Evn.pure _), Evn.step (g' := fun _ => some m) (fun k => by rw [impl_ValueSize.l0, if_neg (by omega)]) (Evn.pure _)⟩
 | d + 1, i, m, hd => by
  have hi : i < xs.length := by omega
  obtain ⟨t, ht, ht'⟩ := ih xs[i] (List.getElem_mem hi)
  have key : ∀ k, spec_ValueSize.l0 (k + 1) m (i : Int) a b c s xs ns = (sS k xs[i]).bind fun t => spec_ValueSize.l0 k (wrap64 (m + t)) ((i + 1 : Nat) : Int) a b c s xs ns := by
   intro k
   rw [spec_ValueSize.l0, if_pos (by omega), if_pos (by omega), w1 i (by omega)]
   simp only [rd_T34, getD_nat _ _ _ hi]
  have key' : ∀ k, impl_ValueSize.l0 (k + 1) m xs (xs.length : Int) (i : Int) = (iS k xs[i]).bind fun t => impl_ValueSize.l0 k (wrap64 (m + t)) xs (xs.length : Int) ((i + 1 : Nat) : Int) := by
   intro k
   rw [impl_ValueSize.l0, if_pos (by omega), if_pos (by omega), if_pos (by omega), w1 i (by omega)]
   simp only [rd_T34, getD_nat _ _ _ hi]
  obtain ⟨r, hr, hr'⟩ := size_l0 a b c s xs ns hlen ih d (i + 1) (wrap64 (m + t)) (by omega)
  exact ⟨r, Evn.step key (Evn.bind ht hr), Evn.step key' (Evn.bind ht' hr')⟩
theorem size_ev : ∀ (n : Nat) (x : S34), Lo n x → ∃ r, Evn (fun k => sS k x) r ∧ Evn (fun k => iS k x) r
 | 0, _, hf => hf.elim
 | n + 1, x, ⟨hl, hk, _⟩ => by
  obtain ⟨r, hr, hr'⟩ := size_l0 x.f0 x.f1.f0 x.f1.f1 x.f2 x.f3 x.f4 hl (fun y hy => size_ev n y (hk y hy)) x.f3.length 0 1 (by omega)
  exact ⟨r, Evn.step (fun k => by show spec_ValueSize.f (k + 1) _ _ _ _ _ _ = _; rw [spec_ValueSize.f]; rfl) hr, Evn.step (fun k => by show impl_ValueSize.f (k + 1) _ _ _ _ _ _ = _; rw [impl_ValueSize.f]; rfl) hr'⟩

end Go.Proofs.YthaceblepbkjjaaDoor.Tv
