import Derived.Test.YtoajejdicfabmaaDoorBFnValueCmpEv
import Derived.Test.YtoajejdicfabmaaDoorBFnValueCmpq4
namespace Go.Proofs.YtoajejdicfabmaaDoor.Nm
set_option linter.unusedVariables false
set_option linter.unusedSimpArgs false
open Go.RowKit Go.Proofs.YtoajejdicfabmaaDoor.Q Go.Proofs.YtoajejdicfabmaaDoor.Evs Go.Proofs.YtoajejdicfabmaaDoorW.PrintWords Go.Proofs.YtoajejdicfabmaaDoorW.PrintLast
def lowB (x : Int) : Bool := if x ≥ 97 then (if x ≤ 122 then true else x == 95) else x == 95
def figB (x : Int) : Bool := if x ≥ 48 then decide (x ≤ 57) else false
theorem letter (x : Int) : impl_isLetter.f x = some (lowB x) := by unfold impl_isLetter.f lowB; (repeat' split) <;> rfl
theorem low (x : Int) : spec_l2Low.f x = some (lowB x) := by unfold spec_l2Low.f lowB; (repeat' split) <;> rfl
theorem figure1 (x : Int) : impl_isFigure.f x = some (figB x) := by unfold impl_isFigure.f figB; split <;> rfl
theorem figure2 (x : Int) : spec_l2Figure.f x = some (figB x) := by unfold spec_l2Figure.f figB; split <;> rfl
theorem inName (x : Int) : impl_inName.f x = some (lowB x || figB x) := by
 unfold impl_inName.f
 rw [letter, Option.bind_some]
 cases lowB x
 ·rw [if_neg (by decide), figure1, Option.bind_some]; rfl
 ·rw [if_pos rfl]; rfl
def okAt (a : ByteArray) (j : Nat) : Bool := lowB (bt a (j : Int)) || (decide (j ≠ 0) && figB (bt a (j : Int)))
def allB (a : ByteArray) (n : Nat) : Bool := (List.range n).all fun j => okAt a (a.size - n + j)
theorem allB_zero (a : ByteArray) : allB a 0 = true := rfl
theorem allB_succ (a : ByteArray) (n i : Nat) (h : i + (n + 1) = a.size) : allB a (n + 1) = (okAt a i && allB a n) := by
 unfold allB
 rw [List.range_succ_eq_map, List.all_cons, List.all_map]
 have e1 : a.size - (n + 1) + 0 = i := by omega
 rw [e1]
 congr 1
 apply congrArg (fun f => (List.range n).all f)
 funext j
 show okAt a (a.size - (n + 1) + (j + 1)) = okAt a (a.size - n + j)
 congr 1
 omega
theorem w1 (i : Nat) (h : i ≤ 9223372036854775806) : wrap64 ((i : Int) + 1) = ((i + 1 : Nat) : Int) := by
 rw [w64 _ (by omega)]; omega
def lenB (a : ByteArray) : Bool := decide (1 ≤ a.size ∧ a.size ≤ 12)
theorem l1In (a : ByteArray) : spec_l1In.f (a.size : Int) 1 12 = some (lenB a) := by
 unfold spec_l1In.f lenB
 by_cases c : (a.size : Int) ≥ 1
 ·rw [if_pos c]; congr 1; apply decide_eq_decide.2; omega
 ·rw [if_neg c]; congr 1; symm; apply decide_eq_false; omega
theorem letters_l0 (a : ByteArray) (hz : a.size ≤ 9223372036854775807) :
  ∀ (d i : Nat), i + d = a.size → Evn (fun k => spec_l2Letters.l0 k a (i : Int)) (allB a d && lenB a)
 | 0, i, hd => Evn.step (g' := fun _ => some (lenB a)) (fun k => by rw [spec_l2Letters.l0, if_neg (by omega), l1In]; rfl) (by rw [allB_zero]; exact Evn.pure _)
 | d + 1, i, hd => by
  have ih := letters_l0 a hz d (i + 1) (by omega)
  rw [allB_succ a d i hd]
  have key : ∀ k, spec_l2Letters.l0 (k + 1) a (i : Int) = if okAt a i = true then spec_l2Letters.l0 k a ((i + 1 : Nat) : Int) else some false := by
   intro k
   rw [spec_l2Letters.l0, if_pos (by omega), if_pos (by omega), low, Option.bind_some, figure2, w1 i (by omega)]
   unfold okAt
   cases lowB (bt a (i : Int)) with
   | true => rw [if_pos rfl, if_pos (by simp)]
   | false =>
    rw [if_neg (by decide)]
    by_cases c : (i : Int) = 0
    ·have c' : i = 0 := by omega
     rw [if_pos c, if_neg (by simp [c'])]
    ·have c' : i ≠ 0 := by omega
     rw [if_neg c, Option.bind_some]
     cases figB (bt a (i : Int)) with
     | true => rw [if_pos rfl, if_pos (by simp [c'])]
     | false => rw [if_neg (by decide), if_neg (by simp)]
  refine Evn.step key ?_
  by_cases c : okAt a i = true
  ·rw [c, Bool.true_and]; exact Evn.ite_pos rfl ih
  ·rw [Bool.eq_false_iff.2 c]; exact Evn.ite_neg (by decide) (Evn.pure _)
theorem run_l0 (a : ByteArray) (hz : a.size ≤ 9223372036854775807) :
  ∀ (d i : Nat), i + d = a.size → 1 ≤ i → ∃ r : Int, Evn (fun k => impl_run_at_inName.l0 k a (i : Int)) r ∧ decide (r = (a.size : Int)) = allB a d
 | 0, i, hd, h1 => ⟨i, Evn.step (g' := fun _ => some (i : Int)) (fun k => by rw [impl_run_at_inName.l0, if_neg (by omega)]) (Evn.pure _), by rw [allB_zero]; exact decide_eq_true (by omega)⟩
 | d + 1, i, hd, h1 => by
  obtain ⟨r, hr, e⟩ := run_l0 a hz d (i + 1) (by omega) (by omega)
  have h0 : decide (i ≠ 0) = true := decide_eq_true (by omega)
  have key : ∀ k, impl_run_at_inName.l0 (k + 1) a (i : Int) = if okAt a i = true then impl_run_at_inName.l0 k a ((i + 1 : Nat) : Int) else some (i : Int) := by
   intro k
   rw [impl_run_at_inName.l0, if_pos (by omega), if_pos (by omega), inName, Option.bind_some, w1 i (by omega)]
   unfold okAt
   rw [h0, Bool.true_and]
  rw [allB_succ a d i hd]
  by_cases c : okAt a i = true
  ·exact ⟨r, Evn.step key (Evn.ite_pos c hr), by rw [c, Bool.true_and]; exact e⟩
  ·exact ⟨i, Evn.step key (Evn.ite_neg c (Evn.pure _)), by rw [Bool.eq_false_iff.2 c, Bool.false_and]; exact decide_eq_false (by omega)⟩
def hasB (l : List ByteArray) (a : ByteArray) : Bool := l.any fun x => decide (x.toList = a.toList)
theorem get_drop (l : List ByteArray) (i d : Nat) (h : i + (d + 1) = l.length) : ∃ x, rdOf ByteArray.empty l (i : Int) = x ∧ l.drop i = x :: l.drop (i + 1) := by
 refine ⟨l[i], getD_nat _ _ _ (by omega), List.drop_eq_getElem_cons (by omega)⟩
theorem has_l0 (l : List ByteArray) (a : ByteArray) (hz : l.length ≤ 9223372036854775807) :
  ∀ (d i : Nat), i + d = l.length → Evn (fun k => spec_l2Has.l0 k l a (i : Int)) (hasB (l.drop i) a)
 | 0, i, hd => Evn.step (g' := fun _ => some false) (fun k => by rw [spec_l2Has.l0, if_neg (by omega)]) (by rw [List.drop_eq_nil_of_le (by omega)]; exact Evn.pure _)
 | d + 1, i, hd => by
  have ih := has_l0 l a hz d (i + 1) (by omega)
  obtain ⟨x, e1, e2⟩ := get_drop l i d hd
  have key : ∀ k, spec_l2Has.l0 (k + 1) l a (i : Int) = if x.toList = a.toList then some true else spec_l2Has.l0 k l a ((i + 1 : Nat) : Int) := by
   intro k
   rw [spec_l2Has.l0, if_pos (by omega), if_pos (by omega), w1 i (by omega), e1]
  rw [e2]
  have hh : hasB (x :: l.drop (i + 1)) a = (decide (x.toList = a.toList) || hasB (l.drop (i + 1)) a) := rfl
  rw [hh]
  refine Evn.step key ?_
  by_cases c : x.toList = a.toList
  ·rw [decide_eq_true c, Bool.true_or]; exact Evn.ite_pos c (Evn.pure _)
  ·rw [decide_eq_false c, Bool.false_or]; exact Evn.ite_neg c ih
theorem index_l0 (l : List ByteArray) (a : ByteArray) (hz : l.length ≤ 9223372036854775807) :
  ∀ (d i : Nat), i + d = l.length → ∃ r : Int, Evn (fun k => slices_Index_string_string.l0 k l a (l.length : Int) (i : Int)) r ∧ decide (r ≥ 0) = hasB (l.drop i) a
 | 0, i, hd => ⟨-1, Evn.step (g' := fun _ => some (-1)) (fun k => by rw [slices_Index_string_string.l0, if_neg (by omega)]) (Evn.pure _), by rw [List.drop_eq_nil_of_le (by omega)]; rfl⟩
 | d + 1, i, hd => by
  obtain ⟨r, hr, e⟩ := index_l0 l a hz d (i + 1) (by omega)
  obtain ⟨x, e1, e2⟩ := get_drop l i d hd
  have key : ∀ k, slices_Index_string_string.l0 (k + 1) l a (l.length : Int) (i : Int) = if a.toList = x.toList then some (i : Int) else slices_Index_string_string.l0 k l a (l.length : Int) ((i + 1 : Nat) : Int) := by
   intro k
   rw [slices_Index_string_string.l0, if_pos (by omega), if_pos (by omega), if_pos (by omega), w1 i (by omega), e1]
  rw [e2]
  have hh : hasB (x :: l.drop (i + 1)) a = (decide (x.toList = a.toList) || hasB (l.drop (i + 1)) a) := rfl
  rw [hh]
  by_cases c : a.toList = x.toList
  ·exact ⟨i, Evn.step key (Evn.ite_pos c (Evn.pure _)), by rw [decide_eq_true c.symm, Bool.true_or]; exact decide_eq_true (by omega)⟩
  ·exact ⟨r, Evn.step key (Evn.ite_neg c hr), by rw [decide_eq_false (p := x.toList = a.toList) (fun h => c h.symm), Bool.false_or]; exact e⟩
def words : List ByteArray := [⟨#[110, 117, 108, 108]⟩, ⟨#[116, 114, 117, 101]⟩, ⟨#[102, 97, 108, 115, 101]⟩, ⟨#[105, 102]⟩, ⟨#[116, 104, 101, 110]⟩, ⟨#[101, 108, 115, 101]⟩, ⟨#[108, 111, 99, 97, 108]⟩, ⟨#[102, 117, 110, 99, 116, 105, 111, 110]⟩, ⟨#[115, 101, 108, 102]⟩, ⟨#[115, 117, 112, 101, 114]⟩, ⟨#[101, 114, 114, 111, 114]⟩, ⟨#[105, 109, 112, 111, 114, 116]⟩, ⟨#[102, 111, 114]⟩, ⟨#[105, 110]⟩, ⟨#[115, 116, 100]⟩]
def nameB (a : ByteArray) : Bool := (allB a a.size && lenB a) && !hasB words a
theorem spec_ev (a : ByteArray) (hz : a.size ≤ 9223372036854775807) : Evn (fun k => spec_NameOk.f k a) (nameB a) := by
 have h1 := letters_l0 a hz a.size 0 (by omega)
 have h2 := has_l0 words a (by decide) words.length 0 (by omega)
 rw [List.drop_zero] at h2
 have e : ∀ k, spec_NameOk.f k a = (spec_l2Letters.l0 k a ((0 : Nat) : Int)).bind fun t => if t = true then (spec_l2Has.l0 k words a ((0 : Nat) : Int)).bind fun u => some (!u) else some false := fun k => rfl
 refine Evn.of e (Evn.bind h1 ?_)
 unfold nameB
 by_cases c : (allB a a.size && lenB a) = true
 ·rw [c, Bool.true_and]; exact Evn.ite_pos rfl (Evn.bind h2 (Evn.pure _))
 ·rw [Bool.eq_false_iff.2 c, Bool.false_and]; exact Evn.ite_neg (by decide) (Evn.pure _)
theorem toList_nil (a : ByteArray) : a.toList = [] ↔ a.size = 0 := by
 rw [ByteArray.toList_eq]
 constructor
 ·intro h; have := congrArg List.length h; simpa using this
 ·intro h
  apply List.eq_nil_of_length_eq_zero
  simpa using h
theorem impl_ev (a : ByteArray) (hz : a.size ≤ 9223372036854775807) : Evn (fun k => impl_NameOk.f k a [words]) (nameB a) := by
 unfold impl_NameOk.f
 by_cases c0 : a.size = 0
 ·refine Evn.ite_pos ((toList_nil a).2 c0) ?_
  have : lenB a = false := decide_eq_false (by omega)
  unfold nameB
  rw [this, Bool.and_false, Bool.false_and]
  exact Evn.pure _
 refine Evn.ite_neg (fun h => c0 ((toList_nil a).1 h)) ?_
 by_cases c1' : ¬ (a.size : Int) ≤ 12
 ·refine Evn.ite_neg c1' ?_
  have : lenB a = false := decide_eq_false (by omega)
  unfold nameB
  rw [this, Bool.and_false, Bool.false_and]
  exact Evn.pure _
 have c1 : (a.size : Int) ≤ 12 := by omega
 refine Evn.ite_pos c1 (Evn.ite_pos (show 0 < (a.size : Int) by omega) ?_)
 have hl : lenB a = true := decide_eq_true (by omega)
 have hall : allB a a.size = (okAt a 0 && allB a (a.size - 1)) := by
  have := allB_succ a (a.size - 1) 0 (by omega)
  rw [show a.size - 1 + 1 = a.size by omega] at this
  exact this
 have h0 : okAt a 0 = lowB (bt a 0) := by unfold okAt; simp
 unfold nameB
 rw [hl, Bool.and_true, hall, h0]
 refine Evn.bind (a := lowB (bt a 0)) (Evn.of (fun _ => letter _) (Evn.pure _)) ?_
 by_cases c2' : lowB (bt a 0) = false
 ·rw [c2']; exact Evn.ite_neg (by decide) (Evn.pure _)
 have c2 : lowB (bt a 0) = true := by simpa using c2'
 rw [c2, Bool.true_and]
 refine Evn.ite_pos rfl ?_
 obtain ⟨r, hr, er⟩ := run_l0 a hz (a.size - 1) 1 (by omega) (by omega)
 have hrun : Evn (fun k => impl_run_at_inName.f k a 0) r := by
  refine Evn.step (g' := fun k => impl_run_at_inName.l0 k a ((1 : Nat) : Int)) (fun k => ?_) hr
  rw [impl_run_at_inName.f, impl_run_at_inName.l0, if_pos (by omega), if_pos (by omega), inName, Option.bind_some, c2, Bool.true_or, if_pos rfl]
  rw [w64 _ (by omega)]
  rfl
 refine Evn.bind hrun ?_
 by_cases c3 : ¬ r = (a.size : Int)
 ·rw [← er, decide_eq_false c3]; exact Evn.ite_neg c3 (Evn.pure _)
 have c3 : r = (a.size : Int) := by omega
 rw [← er, decide_eq_true c3, Bool.true_and]
 refine Evn.ite_pos c3 (Evn.ite_pos (by decide) ?_)
 obtain ⟨q, hq, eq⟩ := index_l0 words a (by decide) words.length 0 (by omega)
 rw [List.drop_zero] at eq
 refine Evn.bind (a := hasB words a) ?_ (Evn.pure _)
 rw [← eq]
 exact Evn.bind (g := fun k => slices_Index_string_string.f k words a) hq (Evn.pure _)
end Go.Proofs.YtoajejdicfabmaaDoor.Nm
