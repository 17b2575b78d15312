import Derived.Test.YtoajejdicfabmaaDoorBFnValueCmpCo
import Derived.Test.YtoajejdicfabmaaDoorBFnValueCmpDq
import Derived.Test.YtoajejdicfabmaaDoorBFnValueCmpNr
import Derived.Test.YtoajejdicfabmaaDoorBFnValueCmpLs
namespace Go.Proofs.YtoajejdicfabmaaDoor.Ce
set_option linter.unusedVariables false
set_option linter.unusedSimpArgs false
open Go.RowKit Go.Proofs.YtoajejdicfabmaaDoor.Q Go.Proofs.YtoajejdicfabmaaDoor.Th Go.Proofs.YtoajejdicfabmaaDoor.Evs Go.Proofs.YtoajejdicfabmaaDoor.Tv Go.Proofs.YtoajejdicfabmaaDoor.Vo Go.Proofs.YtoajejdicfabmaaDoor.Co Go.Proofs.YtoajejdicfabmaaDoorW.PrintWords Go.Proofs.YtoajejdicfabmaaDoorW.PrintLast Go.Proofs.YtoajejdicfabmaaDoorW.PrintMore
theorem lens {α : Type} (xs ys : List α) : ord (xs.length : Int) (ys.length : Int) = ord (xs.length : Int) (ys.length : Int) := rfl
theorem cmp_ints (a b : Int) : cmp_Compare_int.f a b = some (ord a b) := by
 simp only [cmp_Compare_int.f, cmp_isNaN_int.f, Option.bind_some, bne_self_eq_false, Bool.false_eq_true, if_false]
 unfold ord
 by_cases h1 : a < b
 ·rw [if_pos h1, if_pos h1]
 ·rw [if_neg h1, if_neg h1]
  by_cases h2 : a > b
  ·rw [if_pos h2, if_pos h2]
  ·rw [if_neg h2, if_neg h2]
theorem sign (a : Int) : spec_l1Sign.f a = some (ord a 0) := by
 unfold spec_l1Sign.f ord
 by_cases h1 : a < 0
 ·rw [if_pos h1, if_pos h1]
 ·rw [if_neg h1, if_neg h1]
  by_cases h2 : a > 0
  ·rw [if_pos h2, if_pos h2]
  ·rw [if_neg h2, if_neg h2]
theorem sign_sub (a b : Int) (h1 : -1000000000 ≤ a) (h2 : a ≤ 1000000000) (h3 : -1000000000 ≤ b) (h4 : b ≤ 1000000000) : spec_l1Sign.f (wrap64 (a - b)) = some (ord a b) := by
 rw [wrap64_id (by omega) (by omega), sign]
 unfold ord
 congr 1
 (repeat' split) <;> omega
theorem texts_impl (a b : ByteArray) : strings_Compare.f a b = some (cS a b) := by
 unfold strings_Compare.f cS
 rw [compare_cB, ByteArray.toList_eq, ByteArray.toList_eq]
theorem texts_spec (a b : ByteArray) : spec_l8Texts.f a b = some (cS a b) := by
 unfold spec_l8Texts.f cS
 rw [less_cB, less_cB]
 have h1 := cB_swap a.toList b.toList
 have h2 := (t3_cB a.toList b.toList b.toList).1
 by_cases c : cB a.toList b.toList < 0
 ·rw [if_pos (by simpa using c)]; congr 1; omega
 ·rw [if_neg (by simpa using c)]
  by_cases c2 : cB b.toList a.toList < 0
  ·rw [if_pos (by simpa using c2)]; congr 1; omega
  ·rw [if_neg (by simpa using c2)]; congr 1; omega
theorem or2 (x y : Int) : Evn (fun k => cmp_Or_int.f k [x, y]) (o2 x y) := by
 unfold cmp_Or_int.f
 have e0 : rd [x, y] 0 = x := rfl
 have e1 : rd [x, y] 1 = y := rfl
 have hl : (([x, y] : List Int).length : Int) = 2 := by simp
 rw [hl]
 refine Evn.step (fun k => by rw [cmp_Or_int.l0, if_pos (by omega), if_pos (by omega), if_pos (by rw [hl]; omega), e0]) ?_
 unfold o2
 by_cases c : x = 0
 ·rw [if_neg (by simpa using c)]
  refine Evn.ite_pos c ?_
  rw [show wrap64 (0 + 1) = 1 from wrap64_id (by omega) (by omega)]
  refine Evn.step (fun k => by rw [cmp_Or_int.l0, if_pos (by omega), if_pos (by omega), if_pos (by rw [hl]; omega), e1]) ?_
  by_cases c2 : y = 0
  ·rw [c2]
   refine Evn.ite_pos rfl ?_
   rw [show wrap64 (1 + 1) = 2 from wrap64_id (by omega) (by omega)]
   exact Evn.step (g' := fun _ => some 0) (fun k => by rw [cmp_Or_int.l0, if_neg (by omega)]) (Evn.pure _)
  ·exact Evn.ite_neg c2 (Evn.pure _)
 ·rw [if_pos (by simpa using c)]
  exact Evn.ite_neg c (Evn.pure _)
theorem decs_impl {a b c d : Int} (h1 : Ok a b) (h2 : Ok c d) : Evn (fun k => impl_DecCmp.f k a b c d) (ord (val a b) (val c d)) := ⟨100, fun k hk => Dp.impl_cmp k hk h1 h2⟩
theorem decs_spec {a b c d : Int} (h1 : Ok a b) (h2 : Ok c d) : Evn (fun k => spec_l1Cmp.f k a b c d) (ord (val a b) (val c d)) := ⟨100, fun k hk => Dp.l1cmp k hk h1 h2⟩
structure Fit (n : Nat) (z : S33) : Prop where
 num : Ok z.f1.f0 z.f1.f1
 kind : 0 ≤ z.f0 ∧ z.f0 ≤ 6
 names : z.f0 = 6 → z.f4.length = z.f3.length
 len : z.f3.length ≤ 1048576
theorem fit (n : Nat) (z : S33) (hL : Lo (n + 1) z) (hA : A (n + 1) z = true) : Fit n z := by
 have h1 : oneB z = true := by
  unfold A at hA
  rw [Bool.and_eq_true] at hA
  exact hA.1
 unfold oneB at h1
 rw [Bool.and_eq_true] at h1
 have hp := of_decide_eq_true h1.1
 have hq := h1.2
 unfold postB at hq
 have hk : 0 ≤ z.f0 ∧ z.f0 ≤ 6 := by
  constructor
  ·apply Classical.byContradiction; intro hn
   rw [if_neg (by omega), if_neg (by omega), if_neg (by omega), if_neg (by omega)] at hq
   cases hq
  ·apply Classical.byContradiction; intro hn
   rw [if_neg (by omega), if_neg (by omega), if_neg (by omega), if_neg (by omega)] at hq
   cases hq
 refine ⟨?_, hk, fun h6 => ?_, hL.1⟩
 ·rcases hp.1 with h3 | ⟨h0, h0'⟩
  ·rw [if_neg (by omega), if_pos h3] at hq
   exact of_decide_eq_true hq
  ·rw [h0, h0']; unfold Ok; omega
 ·rw [if_neg (by omega), if_neg (by omega), if_neg (by omega), if_pos h6, Bool.and_eq_true] at hq
  exact of_decide_eq_true hq.2
theorem sub_fit (n : Nat) (z : S33) (hA : A (n + 1) z = true) : ∀ y, y ∈ z.f3 → A n y = true := by
 unfold A at hA
 rw [Bool.and_eq_true, List.all_eq_true] at hA
 exact hA.2
theorem nk_drop (z : S33) (n i : Nat) (h : Fit n z) (hi : i < z.f3.length) : ((nk z).drop i).headD ByteArray.empty = (if z.f0 = 6 then rdOf ByteArray.empty z.f4 (i : Int) else ByteArray.empty) ∧ ((nk z).drop i).tail = (nk z).drop (i + 1) := by
 unfold nk
 refine ⟨?_, by simp⟩
 by_cases c : z.f0 = 6
 ·have hl := h.names c
  rw [if_pos c, if_pos c, List.drop_eq_getElem_cons (show i < z.f4.length by omega)]
  show z.f4[i] = z.f4.getD ((i : Int).toNat) ByteArray.empty
  rw [getD_nat z.f4 i _ (by omega)]
 ·rw [if_neg c, if_neg c]
  simp
theorem cS_empty : cS ByteArray.empty ByteArray.empty = 0 := cB_same _
theorem o2_zero (x y : Int) (h : x = 0) : o2 x y = y := by unfold o2; rw [if_neg (by simpa using h)]
theorem o2_not (x y : Int) (h : ¬ x = 0) : o2 x y = x := by unfold o2; rw [if_pos h]
abbrev ic (k : Nat) (a b : S33) := impl_compare.f k a.f0 a.f1.f0 a.f1.f1 a.f2 a.f3 a.f4 b.f0 b.f1.f0 b.f1.f1 b.f2 b.f3 b.f4
theorem ic_l0 (f : S33 → S33 → Int) (n : Nat) (a b : S33) (ha : Fit n a) (hb : Fit n b) (hk : a.f0 = b.f0) (ih : ∀ x y, x ∈ a.f3 → y ∈ b.f3 → Evn (fun k => ic k x y) (f x y)) :
  ∀ (d i : Nat), i + d = min a.f3.length b.f3.length → Evn (fun k => impl_compare.l0 k (mn (a.f3.length : Int) (b.f3.length : Int)) (i : Int) a.f0 a.f1.f0 a.f1.f1 a.f2 a.f3 a.f4 b.f0 b.f1.f0 b.f1.f1 b.f2 b.f3 b.f4) (cL f (a.f3.drop i) (b.f3.drop i) ((nk a).drop i) ((nk b).drop i))
 | 0, i, hd => by
  have hm : mn (a.f3.length : Int) (b.f3.length : Int) = ((min a.f3.length b.f3.length : Nat) : Int) := by unfold mn; split <;> omega
  refine Evn.step (fun k => by rw [impl_compare.l0, hm, if_neg (by omega), cmp_ints]) ?_
  have e : cL f (a.f3.drop i) (b.f3.drop i) ((nk a).drop i) ((nk b).drop i) = ord (a.f3.length : Int) (b.f3.length : Int) := by
   rcases Nat.lt_trichotomy a.f3.length b.f3.length with h | h | h
   ·rw [List.drop_eq_nil_of_le (by omega), List.drop_eq_getElem_cons (show i < b.f3.length by omega)]
    unfold ord
    rw [if_pos (by omega)]
    rfl
   ·rw [List.drop_eq_nil_of_le (by omega), List.drop_eq_nil_of_le (show b.f3.length ≤ i by omega)]
    unfold ord
    rw [if_neg (by omega), if_neg (by omega)]
    rfl
   ·rw [List.drop_eq_nil_of_le (show b.f3.length ≤ i by omega), List.drop_eq_getElem_cons (show i < a.f3.length by omega)]
    unfold ord
    rw [if_neg (by omega), if_pos (by omega)]
    rfl
  rw [e]
  exact Evn.bind (g := fun _ => some (ord (a.f3.length : Int) (b.f3.length : Int))) (Evn.pure _) (Evn.pure _)
 | d + 1, i, hd => by
  have hm : mn (a.f3.length : Int) (b.f3.length : Int) = ((min a.f3.length b.f3.length : Nat) : Int) := by unfold mn; split <;> omega
  have hi : i < a.f3.length := by omega
  have hj : i < b.f3.length := by omega
  have hla := ha.len
  have hr := ic_l0 f n a b ha hb hk ih d (i + 1) (by omega)
  rw [← w1 i (by omega)] at hr
  have ea : rd_T33 a.f3 (i : Int) = a.f3[i] := by simp only [rd_T33, getD_nat _ _ _ hi]
  have eb : rd_T33 b.f3 (i : Int) = b.f3[i] := by simp only [rd_T33, getD_nat _ _ _ hj]
  have na := nk_drop a n i ha hi
  have nb := nk_drop b n i hb hj
  have hx := ih a.f3[i] b.f3[i] (List.getElem_mem hi) (List.getElem_mem hj)
  rw [List.drop_eq_getElem_cons hi, List.drop_eq_getElem_cons hj]
  show Evn _ (o2 (cS (((nk a).drop i).headD ByteArray.empty) (((nk b).drop i).headD ByteArray.empty)) (o2 (f a.f3[i] b.f3[i]) (cL f (a.f3.drop (i + 1)) (b.f3.drop (i + 1)) ((nk a).drop i).tail ((nk b).drop i).tail)))
  rw [na.1, nb.1, na.2, nb.2]
  have hj1 : Evn (fun k => impl_compare.j1 k (i : Int) (mn (a.f3.length : Int) (b.f3.length : Int)) (i : Int) a.f0 a.f1.f0 a.f1.f1 a.f2 a.f3 a.f4 b.f0 b.f1.f0 b.f1.f1 b.f2 b.f3 b.f4) (o2 (f a.f3[i] b.f3[i]) (cL f (a.f3.drop (i + 1)) (b.f3.drop (i + 1)) ((nk a).drop (i + 1)) ((nk b).drop (i + 1)))) := by
   refine Evn.step (fun k => by rw [impl_compare.j1, if_pos (by omega), if_pos (by omega), if_pos (by omega), ea, eb]) (Evn.bind hx ?_)
   by_cases c : f a.f3[i] b.f3[i] = 0
   ·rw [o2_zero _ _ c]; exact Evn.ite_pos c hr
   ·rw [o2_not _ _ c]; exact Evn.ite_neg c (Evn.pure _)
  refine Evn.step (fun k => by rw [impl_compare.l0, hm, if_pos (by omega), ← hm]) ?_
  by_cases c6 : a.f0 = 6
  ·have l1 := ha.names c6
   have l2 := hb.names (by omega)
   rw [if_pos c6, if_pos (show b.f0 = 6 by omega)]
   refine Evn.ite_pos c6 (Evn.ite_pos (by omega) (Evn.ite_pos (by omega) (Evn.ite_pos (by omega) ?_)))
   refine Evn.bind (g := fun _ => strings_Compare.f _ _) (by rw [texts_impl]; exact Evn.pure _) ?_
   by_cases c : cS (rdOf ByteArray.empty a.f4 (i : Int)) (rdOf ByteArray.empty b.f4 (i : Int)) = 0
   ·rw [o2_zero _ _ c]; exact Evn.ite_pos c hj1
   ·rw [o2_not _ _ c]; exact Evn.ite_neg c (Evn.pure _)
  ·rw [if_neg c6, if_neg (show ¬ b.f0 = 6 by omega), o2_zero _ _ cS_empty]
   exact Evn.ite_neg c6 hj1
theorem ic_ev : ∀ (n : Nat) (a b : S33), Lo n a → Lo n b → A n a = true → A n b = true → Evn (fun k => ic k a b) (cV n a b)
 | 0, _, _, h, _, _, _ => h.elim
 | n + 1, a, b, hLa, hLb, hAa, hAb => by
  have ha := fit n a hLa hAa
  have hb := fit n b hLb hAb
  show Evn _ (o2 (ord a.f0 b.f0) (o2 (ord (val a.f1.f0 a.f1.f1) (val b.f1.f0 b.f1.f1)) (o2 (cS a.f2 b.f2) (cL (cV n) a.f3 b.f3 (nk a) (nk b)))))
  refine Evn.step (fun k => by show impl_compare.f (k + 1) _ _ _ _ _ _ _ _ _ _ _ _ = _; rw [impl_compare.f]) ?_
  by_cases c : a.f0 = b.f0
  ·rw [o2_zero (ord a.f0 b.f0) _ (by unfold ord; rw [if_neg (by omega), if_neg (by omega)])]
   have hl := ic_l0 (cV n) n a b ha hb c (fun x y hx hy => ic_ev n x y (hLa.2.1 x hx) (hLb.2.1 y hy) (sub_fit n a hAa x hx) (sub_fit n b hAb y hy)) (min a.f3.length b.f3.length) 0 (by omega)
   rw [List.drop_zero, List.drop_zero, List.drop_zero, List.drop_zero] at hl
   refine Evn.ite_pos c (Evn.bind (decs_impl ha.num hb.num) (Evn.bind (g := fun _ => strings_Compare.f _ _) (by rw [texts_impl]; exact Evn.pure _) (Evn.bind (or2 _ _) ?_)))
   have e : ∀ x y z : Int, o2 x (o2 y z) = o2 (o2 x y) z := fun x y z => by unfold o2; (repeat' split) <;> omega
   rw [e]
   by_cases c2 : o2 (ord (val a.f1.f0 a.f1.f1) (val b.f1.f0 b.f1.f1)) (cS a.f2 b.f2) = 0
   ·rw [o2_zero _ _ c2]; exact Evn.ite_pos c2 hl
   ·rw [o2_not _ _ c2]; exact Evn.ite_neg c2 (Evn.pure _)
  ·rw [o2_not (ord a.f0 b.f0) _ (by unfold ord; (repeat' split) <;> omega)]
   exact Evn.ite_neg c (Evn.bind (g := fun _ => cmp_Compare_int.f _ _) (by rw [cmp_ints]; exact Evn.pure _) (Evn.pure _))
abbrev sc (k : Nat) (a b : S33) := spec_l13Cmp.f k a.f0 a.f1.f0 a.f1.f1 a.f2 a.f3 a.f4 b.f0 b.f1.f0 b.f1.f1 b.f2 b.f3 b.f4
theorem sc_end (f : S33 → S33 → Int) (n : Nat) (a b : S33) (ha : Fit n a) (hb : Fit n b) (i : Nat) (hi : ¬ (i < a.f3.length ∧ i < b.f3.length)) (hi2 : i ≤ a.f3.length) (hi3 : i ≤ b.f3.length) :
  Evn (fun k => spec_l13Cmp.j1 k (i : Int) false a.f0 a.f1.f0 a.f1.f1 a.f2 a.f3 a.f4 b.f0 b.f1.f0 b.f1.f1 b.f2 b.f3 b.f4) (cL f (a.f3.drop i) (b.f3.drop i) ((nk a).drop i) ((nk b).drop i)) := by
 have l1 := ha.len
 have l2 := hb.len
 refine Evn.step (fun k => by rw [spec_l13Cmp.j1, if_neg (by decide), sign_sub _ _ (by omega) (by omega) (by omega) (by omega)]) ?_
 have e : cL f (a.f3.drop i) (b.f3.drop i) ((nk a).drop i) ((nk b).drop i) = ord (a.f3.length : Int) (b.f3.length : Int) := by
  rcases Nat.lt_trichotomy a.f3.length b.f3.length with h | h | h
  ·rw [List.drop_eq_nil_of_le (by omega), List.drop_eq_getElem_cons (show i < b.f3.length by omega)]
   unfold ord
   rw [if_pos (by omega)]
   rfl
  ·rw [List.drop_eq_nil_of_le (by omega), List.drop_eq_nil_of_le (show b.f3.length ≤ i by omega)]
   unfold ord
   rw [if_neg (by omega), if_neg (by omega)]
   rfl
  ·rw [List.drop_eq_nil_of_le (show b.f3.length ≤ i by omega), List.drop_eq_getElem_cons (show i < a.f3.length by omega)]
   unfold ord
   rw [if_neg (by omega), if_pos (by omega)]
   rfl
 rw [e]
 exact Evn.bind (g := fun _ => some (ord (a.f3.length : Int) (b.f3.length : Int))) (Evn.pure _) (Evn.pure _)
theorem sc_l0 (f : S33 → S33 → Int) (n : Nat) (a b : S33) (ha : Fit n a) (hb : Fit n b) (hk : a.f0 = b.f0) (ih : ∀ x y, x ∈ a.f3 → y ∈ b.f3 → Evn (fun k => sc k x y) (f x y)) :
  ∀ (d i : Nat), i + d = min a.f3.length b.f3.length → Evn (fun k => spec_l13Cmp.l0 k (i : Int) a.f0 a.f1.f0 a.f1.f1 a.f2 a.f3 a.f4 b.f0 b.f1.f0 b.f1.f1 b.f2 b.f3 b.f4) (cL f (a.f3.drop i) (b.f3.drop i) ((nk a).drop i) ((nk b).drop i))
 | 0, i, hd => by
  have h0 := sc_end f n a b ha hb i (by omega) (by omega) (by omega)
  refine Evn.step (fun k => by rw [spec_l13Cmp.l0]) ?_
  by_cases c : (i : Int) < (a.f3.length : Int)
  ·refine Evn.ite_pos c ?_
   rw [decide_eq_false (show ¬ (i : Int) < (b.f3.length : Int) by omega)]
   exact h0
  ·exact Evn.ite_neg c h0
 | d + 1, i, hd => by
  have hi : i < a.f3.length := by omega
  have hj : i < b.f3.length := by omega
  have hla := ha.len
  have hr := sc_l0 f n a b ha hb hk ih d (i + 1) (by omega)
  rw [← w1 i (by omega)] at hr
  have ea : rd_T33 a.f3 (i : Int) = a.f3[i] := by simp only [rd_T33, getD_nat _ _ _ hi]
  have eb : rd_T33 b.f3 (i : Int) = b.f3[i] := by simp only [rd_T33, getD_nat _ _ _ hj]
  have na := nk_drop a n i ha hi
  have nb := nk_drop b n i hb hj
  have hx := ih a.f3[i] b.f3[i] (List.getElem_mem hi) (List.getElem_mem hj)
  rw [List.drop_eq_getElem_cons hi, List.drop_eq_getElem_cons hj]
  show Evn _ (o2 (cS (((nk a).drop i).headD ByteArray.empty) (((nk b).drop i).headD ByteArray.empty)) (o2 (f a.f3[i] b.f3[i]) (cL f (a.f3.drop (i + 1)) (b.f3.drop (i + 1)) ((nk a).drop i).tail ((nk b).drop i).tail)))
  rw [na.1, nb.1, na.2, nb.2]
  have hj2 : Evn (fun k => spec_l13Cmp.j2 k (i : Int) false a.f0 a.f1.f0 a.f1.f1 a.f2 a.f3 a.f4 b.f0 b.f1.f0 b.f1.f1 b.f2 b.f3 b.f4) (o2 (f a.f3[i] b.f3[i]) (cL f (a.f3.drop (i + 1)) (b.f3.drop (i + 1)) ((nk a).drop (i + 1)) ((nk b).drop (i + 1)))) := by
   refine Evn.step (fun k => by rw [spec_l13Cmp.j2, if_neg (by decide), if_pos (by omega), if_pos (by omega), if_pos (by omega), ea, eb]) (Evn.bind hx ?_)
   by_cases c : f a.f3[i] b.f3[i] = 0
   ·rw [o2_zero _ _ c]; exact Evn.ite_pos c hr
   ·rw [o2_not _ _ c]; exact Evn.ite_neg c (Evn.pure _)
  refine Evn.step (fun k => by rw [spec_l13Cmp.l0, if_pos (by omega), decide_eq_true (show (i : Int) < (b.f3.length : Int) by omega)]) ?_
  refine Evn.step (fun k => by rw [spec_l13Cmp.j1, if_pos rfl]) ?_
  by_cases c6 : a.f0 = 6
  ·have l1 := ha.names c6
   have l2 := hb.names (by omega)
   rw [if_pos c6, if_pos (show b.f0 = 6 by omega)]
   refine Evn.ite_pos c6 (Evn.ite_pos (by omega) (Evn.ite_pos (by omega) (Evn.ite_pos (by omega) ?_)))
   by_cases c : (rdOf ByteArray.empty a.f4 (i : Int)).toList = (rdOf ByteArray.empty b.f4 (i : Int)).toList
   ·rw [o2_zero _ _ (by unfold cS; rw [c]; exact cB_same _), c, bne_self_eq_false]
    exact hj2
   ·have c0 : ¬ cS (rdOf ByteArray.empty a.f4 (i : Int)) (rdOf ByteArray.empty b.f4 (i : Int)) = 0 := fun h => c (cB_zero _ _ h)
    rw [o2_not _ _ c0, bne_iff_ne.2 c]
    refine Evn.step (fun k => by rw [spec_l13Cmp.j2, if_pos rfl, if_pos (by omega), if_pos (by omega), if_pos (by omega), texts_spec]) ?_
    exact Evn.bind (g := fun _ => some (cS (rdOf ByteArray.empty a.f4 (i : Int)) (rdOf ByteArray.empty b.f4 (i : Int)))) (Evn.pure _) (Evn.pure _)
  ·rw [if_neg c6, if_neg (show ¬ b.f0 = 6 by omega), o2_zero _ _ cS_empty]
   exact Evn.ite_neg c6 hj2
theorem sc_ev : ∀ (n : Nat) (a b : S33), Lo n a → Lo n b → A n a = true → A n b = true → Evn (fun k => sc k a b) (cV n a b)
 | 0, _, _, h, _, _, _ => h.elim
 | n + 1, a, b, hLa, hLb, hAa, hAb => by
  have ha := fit n a hLa hAa
  have hb := fit n b hLb hAb
  have hka := ha.kind
  have hkb := hb.kind
  show Evn _ (o2 (ord a.f0 b.f0) (o2 (ord (val a.f1.f0 a.f1.f1) (val b.f1.f0 b.f1.f1)) (o2 (cS a.f2 b.f2) (cL (cV n) a.f3 b.f3 (nk a) (nk b)))))
  refine Evn.step (fun k => by show spec_l13Cmp.f (k + 1) _ _ _ _ _ _ _ _ _ _ _ _ = _; rw [spec_l13Cmp.f]) ?_
  by_cases c : a.f0 = b.f0
  ·rw [o2_zero (ord a.f0 b.f0) _ (by unfold ord; rw [if_neg (by omega), if_neg (by omega)])]
   have hl := sc_l0 (cV n) n a b ha hb c (fun x y hx hy => sc_ev n x y (hLa.2.1 x hx) (hLb.2.1 y hy) (sub_fit n a hAa x hx) (sub_fit n b hAb y hy)) (min a.f3.length b.f3.length) 0 (by omega)
   rw [List.drop_zero, List.drop_zero, List.drop_zero, List.drop_zero] at hl
   refine Evn.ite_pos c ?_
   by_cases c1 : a.f1.f0 = b.f1.f0 ∧ a.f1.f1 = b.f1.f1
   ·rw [o2_zero (ord (val a.f1.f0 a.f1.f1) (val b.f1.f0 b.f1.f1)) _ (by rw [c1.1, c1.2]; unfold ord; rw [if_neg (by omega), if_neg (by omega)])]
    refine Evn.ite_neg (by rw [c1.1, c1.2]; simp) ?_
    by_cases c2 : a.f2.toList = b.f2.toList
    ·rw [o2_zero _ _ (by unfold cS; rw [c2]; exact cB_same _)]
     exact Evn.ite_pos c2 hl
    ·have c0 : ¬ cS a.f2 b.f2 = 0 := fun h => c2 (cB_zero _ _ h)
     rw [o2_not _ _ c0]
     exact Evn.ite_neg c2 (Evn.bind (g := fun _ => spec_l8Texts.f _ _) (by rw [texts_spec]; exact Evn.pure _) (Evn.pure _))
   ·have c0 : ¬ ord (val a.f1.f0 a.f1.f1) (val b.f1.f0 b.f1.f1) = 0 := fun h => c1 (ok_inj ha.num hb.num (by unfold ord at h; revert h; (repeat' split) <;> omega))
    rw [o2_not _ _ c0]
    refine Evn.ite_pos (by
     rw [Bool.or_eq_true, Bool.not_eq_true', Bool.not_eq_true', beq_eq_false_iff_ne, beq_eq_false_iff_ne]
     by_cases c2 : a.f1.f0 = b.f1.f0
     ·exact .inr (fun h => c1 ⟨c2, h⟩)
     ·exact .inl c2) (Evn.bind (decs_spec ha.num hb.num) (Evn.pure _))
  ·rw [o2_not (ord a.f0 b.f0) _ (by unfold ord; (repeat' split) <;> omega)]
   exact Evn.ite_neg c (Evn.bind (g := fun _ => spec_l1Sign.f _) (by rw [sign_sub _ _ (by omega) (by omega) (by omega) (by omega)]; exact Evn.pure _) (Evn.pure _))
def R (n : Nat) (a b : S33) : Int := if Lk.rok n a = true then (if Lk.rok n b = true then cV n a b else 0) else 0
theorem rok_A {n : Nat} {z : S33} (h : Lk.rok n z = true) : A n z = true := by
 unfold Lk.rok at h
 rw [Bool.and_eq_true, Bool.and_eq_true] at h
 exact h.2.2
theorem impl_ev (n : Nat) (hn : n ≤ 2000000) (a b : S33) (ha : Lo n a) (hb : Lo n b) : Evn (fun k => impl_ValueCmp.f k a.f0 a.f1.f0 a.f1.f1 a.f2 a.f3 a.f4 b.f0 b.f1.f0 b.f1.f1 b.f2 b.f3 b.f4 [Nm.words]) (R n a b) := by
 unfold impl_ValueCmp.f R
 refine Evn.bind (Lk.ok2_ev n hn a ha).2 ?_
 by_cases c : Lk.rok n a = true
 ·rw [if_pos c]
  refine Evn.ite_pos c (Evn.bind (Lk.ok2_ev n hn b hb).2 ?_)
  by_cases c2 : Lk.rok n b = true
  ·rw [if_pos c2]
   exact Evn.ite_pos c2 (Evn.bind (ic_ev n a b ha hb (rok_A c) (rok_A c2)) (Evn.pure _))
  ·rw [if_neg c2]; exact Evn.ite_neg c2 (Evn.pure _)
 ·rw [if_neg c]; exact Evn.ite_neg c (Evn.pure _)
theorem spec_ev (n : Nat) (hn : n ≤ 2000000) (a b : S33) (ha : Lo n a) (hb : Lo n b) : Evn (fun k => spec_ValueCmp.f k a.f0 a.f1.f0 a.f1.f1 a.f2 a.f3 a.f4 b.f0 b.f1.f0 b.f1.f1 b.f2 b.f3 b.f4) (R n a b) := by
 unfold spec_ValueCmp.f R
 refine Evn.bind (Lk.ok2_ev n hn a ha).1 ?_
 by_cases c : Lk.rok n a = true
 ·rw [if_pos c]
  refine Evn.ite_pos c (Evn.bind (Lk.ok2_ev n hn b hb).1 ?_)
  by_cases c2 : Lk.rok n b = true
  ·rw [if_pos c2]
   exact Evn.ite_pos c2 (Evn.bind (sc_ev n a b ha hb (rok_A c) (rok_A c2)) (Evn.pure _))
  ·rw [if_neg c2]; exact Evn.ite_neg c2 (Evn.pure _)
 ·rw [if_neg c]; exact Evn.ite_neg c (Evn.pure _)
theorem R_swap (n : Nat) (a b : S33) : R n b a = - R n a b := by
 unfold R
 by_cases c : Lk.rok n a = true <;> by_cases c2 : Lk.rok n b = true
 ·rw [if_pos c, if_pos c2, if_pos c, if_pos c2]; exact cV_swap n a b
 ·rw [if_neg c2, if_pos c, if_neg c2]; rfl
 ·rw [if_pos c2, if_neg c, if_neg c]; rfl
 ·rw [if_neg c2, if_neg c]; rfl
theorem R_range (n : Nat) (a b : S33) : -1 ≤ R n a b ∧ R n a b ≤ 1 := by
 unfold R
 have := (t3_cV n a b b).1
 (repeat' split) <;> omega
theorem R_trans (n : Nat) (a b c : S33) (ha : Lk.rok n a = true) (hb : Lk.rok n b = true) (hc : Lk.rok n c = true) (h1 : R n a b ≤ 0) (h2 : R n b c ≤ 0) : R n a c ≤ 0 := by
 unfold R at *
 rw [if_pos ha, if_pos hb] at h1
 rw [if_pos hb, if_pos hc] at h2
 rw [if_pos ha, if_pos hc]
 exact (t3_cV n a b c).2.2.2.1 h1 h2
end Go.Proofs.YtoajejdicfabmaaDoor.Ce
