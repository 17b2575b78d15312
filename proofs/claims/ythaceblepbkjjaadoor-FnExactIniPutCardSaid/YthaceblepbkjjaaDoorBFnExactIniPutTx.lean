import Derived.Test.YthaceblepbkjjaaDoorBFnExactIniPutEv
import Derived.Test.YthaceblepbkjjaaDoorBFnExactIniPutTh
import Derived.Lib.ItoaNum
import Derived.Lib.Repeat
import Derived.Test.YthaceblepbkjjaaDoorBFnExactIniPutq4
namespace Go.Proofs.YthaceblepbkjjaaDoor.Tx
set_option linter.unusedVariables false
set_option linter.unusedSimpArgs false
open Go.RowKit Go.Proofs.YthaceblepbkjjaaDoor.Q Go.Proofs.YthaceblepbkjjaaDoor.Evs Go.Proofs.YthaceblepbkjjaaDoor.Th Go.Proofs.YthaceblepbkjjaaDoorW.PrintWords Go.Proofs.YthaceblepbkjjaaDoorW.PrintLast Go.Proofs.YthaceblepbkjjaaDoorW.PrintMore
theorem dec_no {p : Prop} [Decidable p] (h : ¬ p) : some false = some (decide p) := by rw [decide_eq_false h]
theorem dec_yes {p : Prop} [Decidable p] (h : p) : some true = some (decide p) := by rw [decide_eq_true h]
theorem in_range (a b c : Int) : spec_l1In.f a b c = some (decide (b ≤ a ∧ a ≤ c)) := by
 unfold spec_l1In.f
 by_cases h1 : b ≤ a <;> by_cases h2 : a ≤ c <;> simp [h1, h2]
theorem spec_ok (m e : Int) : spec_DecOk.f m e = some (decide (Ok m e)) := by
 have h := tmod10 m
 unfold spec_DecOk.f
 by_cases h0 : m = 0
 ·rw [if_pos h0]; subst h0
  by_cases he : e = 0
  ·subst he; rfl
  ·rw [beq_false_of_ne he]; exact dec_no (by unfold Ok; omega)
 ·rw [if_neg h0, in_range, Option.bind_some]
  by_cases h1 : -99999999 ≤ m ∧ m ≤ 99999999
  ·rw [if_pos (decide_eq_true h1), in_range, Option.bind_some]
   by_cases h2 : -8 ≤ e ∧ e ≤ 8
   ·rw [if_pos (decide_eq_true h2)]
    by_cases h3 : m % 10 = 0
    ·rw [h.2 h3]; exact dec_no (by unfold Ok; omega)
    ·rw [bne_iff_ne.2 (fun z => h3 (h.1 z))]; exact dec_yes (by unfold Ok; omega)
   ·rw [if_neg (fun z => h2 (of_decide_eq_true z))]; exact dec_no (by unfold Ok; omega)
  ·rw [if_neg (fun z => h1 (of_decide_eq_true z))]; exact dec_no (by unfold Ok; omega)
theorem impl_ok (m e : Int) : impl_DecOk.f m e = some (decide (Ok m e)) := by
 have h := tmod10 m
 unfold impl_DecOk.f
 by_cases h1 : -99999999 ≤ m
 ·by_cases h2 : m ≤ 99999999
  ·by_cases h3 : -8 ≤ e
   ·by_cases h4 : e ≤ 8
    ·rw [if_pos h1, if_pos h2, if_pos h3, if_pos h4]
     by_cases h5 : m % 10 = 0
     ·rw [if_pos (h.2 h5)]
      by_cases h6 : m = 0
      ·subst h6
       by_cases he : e = 0
       ·subst he; rfl
       ·rw [beq_false_of_ne he]; exact dec_no (by unfold Ok; omega)
      ·rw [beq_false_of_ne h6]; exact dec_no (by unfold Ok; omega)
     ·rw [if_neg (fun z => h5 (h.1 z))]; exact dec_yes (by unfold Ok; omega)
    ·rw [if_pos h1, if_pos h2, if_pos h3, if_neg h4]; exact dec_no (by unfold Ok; omega)
   ·rw [if_pos h1, if_pos h2, if_neg h3]; exact dec_no (by unfold Ok; omega)
  ·rw [if_pos h1, if_neg h2]; exact dec_no (by unfold Ok; omega)
 ·rw [if_neg h1]; exact dec_no (by unfold Ok; omega)
/-! ### decimal numerals -/
theorem _root_.Go.Proofs.YthaceblepbkjjaaDoor.Evs.Evn.up {α : Type} {g : Nat → Option α} {r : α} (mono : ∀ k, LeO (g k) (g (k + 1))) (n : Nat) (h : g n = some r) : Evn g r := by
 refine ⟨n, fun k hk => ?_⟩
 obtain ⟨j, rfl⟩ : ∃ j, k = n + j := ⟨k - n, by omega⟩
 clear hk
 induction j with
 | zero => exact h
 | succ j ih => exact mono _ _ ih
def dd (n : Nat) : ByteArray := ⟨(Lib.decDigits n).toArray⟩
theorem dd_size (n : Nat) : (dd n).size = Lib.nDigits n := by
 show (Lib.decDigits n).toArray.size = _
 rw [List.size_toArray, Lib.decDigits_length]
theorem nd_le : ∀ (n : Nat), Lib.nDigits n ≤ n + 1 := by
 intro n
 induction n using Nat.strongRecOn with
 | _ n ih =>
  by_cases h : n < 10
  ·rw [Lib.nDigits_small h]; omega
  ·rw [Lib.nDigits_big h]
   have := ih (n / 10) (by omega)
   omega
theorem one_fin : ∀ d : Fin 10, strOfNums [(wrap64 (48 + (d.val : Int))) % 256] = (⟨#[UInt8.ofNat (48 + d.val)]⟩ : ByteArray) := by decide +kernel
theorem one_dig (d : Nat) (h : d < 10) : strOfNums [(wrap64 (48 + (d : Int))) % 256] = (⟨#[UInt8.ofNat (48 + d)]⟩ : ByteArray) := one_fin ⟨d, h⟩
theorem dec_ev (n : Nat) (hn : n ≤ 1000000000000) : Evn (fun k => spec_l1Dec.f k (n : Int)) (dd n) := by
 induction n using Nat.strongRecOn with
 | _ n ih =>
  by_cases h : n < 10
  ·refine Evn.step (g' := fun _ => some (dd n)) (fun k => ?_) (Evn.pure _)
   rw [spec_l1Dec.f, if_neg (by omega), if_neg (by omega), if_pos (by omega), one_dig n h]
   unfold dd
   rw [Lib.decDigits_one h]
  ·have e1 : wrap64 (Int.tdiv (n : Int) 10) = ((n / 10 : Nat) : Int) := by rw [Int.tdiv_eq_ediv_of_nonneg (by omega), w64 _ (by omega)]; omega
   have e2 : Int.tmod (n : Int) 10 = ((n % 10 : Nat) : Int) := by rw [Int.tmod_eq_emod_of_nonneg (by omega)]; omega
   have hd : dd n = dd (n / 10) ++ (⟨#[UInt8.ofNat (48 + n % 10)]⟩ : ByteArray) := by
    unfold dd
    rw [Lib.decDigits, dif_neg h]
    apply ByteArray.ext
    simp
   have hs := nd_le (n / 10)
   refine Evn.step (g' := fun k => (spec_l1Dec.f k ((n / 10 : Nat) : Int)).bind fun t => if t.size + 1 ≤ 9223372036854775807 then some (t ++ (⟨#[UInt8.ofNat (48 + n % 10)]⟩ : ByteArray)) else none) (fun k => ?_) ?_
   ·rw [spec_l1Dec.f, if_neg (by omega), if_neg (by omega), if_neg (by omega), e1, e2]
    congr 1
    funext t
    rw [Option.bind_some, one_dig (n % 10) (by omega)]
    rfl
   ·refine Evn.bind (ih (n / 10) (by omega) (by omega)) ?_
    rw [hd]
    have c : (dd (n / 10)).size + 1 ≤ 9223372036854775807 := by rw [dd_size]; omega
    exact Evn.ite_pos c (Evn.pure _)
def zeros (n : Nat) : ByteArray := ⟨(Lib.repeatL [48] n).toArray⟩
theorem zeros_size (n : Nat) : (zeros n).size = n := by
 show (Lib.repeatL [48] n).toArray.size = n
 rw [List.size_toArray, Lib.repeatL_length]
 simp
theorem zeros_succ (n : Nat) : zeros (n + 1) = (⟨#[48]⟩ : ByteArray) ++ zeros n := by
 apply ByteArray.ext
 simp [zeros, Lib.repeatL]
theorem zeros_zero : zeros 0 = (⟨#[]⟩ : ByteArray) := rfl
theorem nil_append (x : ByteArray) : (⟨#[]⟩ : ByteArray) ++ x = x := by
 apply ByteArray.ext
 simp
theorem many_fin : ∀ d : Fin 9, spec_l1Many.f 10 (⟨#[48]⟩ : ByteArray) (d.val : Int) = some (zeros d.val) := by decide +kernel
theorem many_ev (d : Nat) (h : d < 9) : Evn (fun k => spec_l1Many.f k (⟨#[48]⟩ : ByteArray) (d : Int)) (zeros d) :=
 Evn.up (fun k => spec_l1Many.mono _ _ k) 10 (many_fin ⟨d, h⟩)
theorem rep (d : Nat) (h : d ≤ 1000) : strings_Repeat.f (⟨#[48]⟩ : ByteArray) (d : Int) = some (zeros d) := by
 unfold strings_Repeat.f
 have hs : ((⟨#[48]⟩ : ByteArray)).size = 1 := rfl
 rw [if_pos ⟨by omega, by omega, by rw [hs]; omega⟩]
 rfl
/-! ### a text with a point -/
def cutAt (x : ByteArray) (e : Int) : ByteArray := (x.extract 0 ((x.size : Int) + e).toNat ++ (⟨#[46]⟩ : ByteArray)) ++ x.extract ((x.size : Int) + e).toNat x.size
def pad (s : ByteArray) (e : Int) : Nat := (-e + 1 - (s.size : Int)).toNat
def body (s : ByteArray) (e : Int) : ByteArray := if e ≥ 0 then s ++ zeros e.toNat else cutAt (zeros (pad s e) ++ s) e
theorem ext_size (x : ByteArray) (a b : Nat) (hb : b ≤ x.size) : (x.extract a b).size = b - a := by
 rw [ByteArray.size_extract]; omega
theorem text_l0 (s : ByteArray) (m e : Int) (he : -8 ≤ e ∧ e ≤ -1) (hs : 1 ≤ s.size ∧ s.size ≤ 100) :
  ∀ (d i : Nat), i + d = pad s e → Evn (fun k => spec_l1Text.l0 k (zeros i ++ s) m e) (cutAt (zeros (pad s e) ++ s) e)
 | 0, i, hd => by
  obtain rfl : i = pad s e := by omega
  generalize hx : zeros (pad s e) ++ s = x
  have hz : x.size = pad s e + s.size := by rw [← hx, ByteArray.size_append, zeros_size]
  unfold pad at hz
  refine Evn.step (g' := fun _ => some (cutAt x e)) (fun k => ?_) (Evn.pure _)
  have e1 : (x.extract 0 ((x.size : Int) + e).toNat).size = ((x.size : Int) + e).toNat := by rw [ext_size _ _ _ (by omega)]; omega
  have e2 : (x.extract ((x.size : Int) + e).toNat x.size).size = x.size - ((x.size : Int) + e).toNat := ext_size _ _ _ (by omega)
  rw [spec_l1Text.l0, w64 (-e) (by omega), if_neg (by omega), w64 ((x.size : Int) + e) (by omega), if_pos (by omega), if_pos (by omega), if_pos (by rw [e1]; omega), if_pos (by rw [ByteArray.size_append, e1, e2]; show _ + 1 + _ ≤ _; omega)]
  rfl
 | d + 1, i, hd => by
  have ih := text_l0 s m e he hs d (i + 1) (by omega)
  have hz : (zeros i ++ s).size = i + s.size := by rw [ByteArray.size_append, zeros_size]
  unfold pad at hd
  refine Evn.step (fun k => ?_) ih
  rw [spec_l1Text.l0, w64 (-e) (by omega), if_pos (by omega), if_pos (by omega), zeros_succ, ByteArray.append_assoc]
theorem nd_100 (n : Nat) (hn : n ≤ 99999999) : Lib.nDigits n ≤ 100 := by
 have h1 : ∀ k, k ≤ 8 → 10 ^ k ≤ n → n < 10 ^ (k + 1) → Lib.nDigits n ≤ 100 := fun k hk h1 h2 => by rw [Lib.nDigits_unique k n h1 h2]; omega
 by_cases c1 : n < 10
 ·rw [Lib.nDigits_small c1]; omega
 by_cases c2 : n < 100
 ·exact h1 1 (by omega) (by omega) (by omega)
 by_cases c3 : n < 1000
 ·exact h1 2 (by omega) (by omega) (by omega)
 by_cases c4 : n < 10000
 ·exact h1 3 (by omega) (by omega) (by omega)
 by_cases c5 : n < 100000
 ·exact h1 4 (by omega) (by omega) (by omega)
 by_cases c6 : n < 1000000
 ·exact h1 5 (by omega) (by omega) (by omega)
 by_cases c7 : n < 10000000
 ·exact h1 6 (by omega) (by omega) (by omega)
 exact h1 7 (by omega) (by omega) (by omega)
theorem body_ev (n : Nat) (e : Int) (hn : n ≤ 99999999) (he : -8 ≤ e ∧ e ≤ 8) : Evn (fun k => spec_l1Text.f k (n : Int) e) (body (dd n) e) := by
 have hp := Lib.nDigits_pos n
 have hd := nd_100 n hn
 have hz := dd_size n
 refine Evn.step (g' := fun k => (spec_l1Dec.f k (n : Int)).bind fun t121 => (if e ≥ 0 then ((spec_l1Many.f k (⟨#[48]⟩ : ByteArray) e).bind fun t122 => (if t121.size + t122.size ≤ 9223372036854775807 then (some (t121 ++ t122)) else (none))) else (spec_l1Text.l0 k t121 (n : Int) e))) (fun k => by rw [spec_l1Text.f, if_neg (by omega)]) ?_
 refine Evn.bind (dec_ev n (by omega)) ?_
 unfold body
 by_cases c : e ≥ 0
 ·rw [if_pos c]
  obtain ⟨j, rfl⟩ := Int.eq_ofNat_of_zero_le c
  refine Evn.ite_pos c (Evn.bind (many_ev j (by omega)) (Evn.ite_pos ?_ ?_))
  ·rw [zeros_size]; omega
  ·rw [Int.toNat_natCast]; exact Evn.pure _
 ·rw [if_neg c]
  have := text_l0 (dd n) (n : Int) e (by omega) (by omega) (pad (dd n) e) 0 (by omega)
  rw [zeros_zero, nil_append] at this
  exact Evn.ite_neg c this
theorem cut_eq (mi x : ByteArray) (e : Int) : ((mi ++ x.extract 0 ((x.size : Int) + e).toNat) ++ (⟨#[46]⟩ : ByteArray)) ++ x.extract ((x.size : Int) + e).toNat x.size = mi ++ cutAt x e := by
 unfold cutAt
 rw [ByteArray.append_assoc, ByteArray.append_assoc, ByteArray.append_assoc]
theorem impl_cut (mi x : ByteArray) (e : Int) (hm : mi.size ≤ 1) (hx : x.size ≤ 1000) (h0 : 0 ≤ (x.size : Int) + e) (he : e ≤ 0) :
  (if 0 ≤ (wrap64 ((x.size : Int) + e)) then (if (wrap64 ((x.size : Int) + e)) ≤ (x.size : Int) then (if mi.size + (x.extract 0 ((wrap64 ((x.size : Int) + e)) : Int).toNat).size ≤ 9223372036854775807 then (if (mi ++ (x.extract 0 ((wrap64 ((x.size : Int) + e)) : Int).toNat)).size + 1 ≤ 9223372036854775807 then (if ((mi ++ (x.extract 0 ((wrap64 ((x.size : Int) + e)) : Int).toNat)) ++ (⟨#[46]⟩ : ByteArray)).size + (x.extract ((wrap64 ((x.size : Int) + e)) : Int).toNat x.size).size ≤ 9223372036854775807 then (some (((mi ++ (x.extract 0 ((wrap64 ((x.size : Int) + e)) : Int).toNat)) ++ (⟨#[46]⟩ : ByteArray)) ++ (x.extract ((wrap64 ((x.size : Int) + e)) : Int).toNat x.size))) else (none)) else (none)) else (none)) else (none)) else (none)) = some (mi ++ cutAt x e) := by
 rw [w64 ((x.size : Int) + e) (by omega)]
 have e1 : (x.extract 0 ((x.size : Int) + e).toNat).size = ((x.size : Int) + e).toNat := by rw [ext_size _ _ _ (by omega)]; omega
 have e2 : (x.extract ((x.size : Int) + e).toNat x.size).size = x.size - ((x.size : Int) + e).toNat := ext_size _ _ _ (by omega)
 rw [if_pos h0, if_pos (by omega), if_pos (by rw [e1]; omega), if_pos (by rw [ByteArray.size_append, e1]; omega), if_pos (by rw [ByteArray.size_append, ByteArray.size_append, e1, e2]; show _ + 1 + _ ≤ _; omega), cut_eq]
theorem impl_j0 (k : Nat) (s mi : ByteArray) (m e : Int) (hs : 1 ≤ s.size ∧ s.size ≤ 100) (hm : mi.size ≤ 1) (he : -8 ≤ e ∧ e ≤ 8) :
  impl_DecText.j0 (k + 1) s mi m e = some (mi ++ body s e) := by
 rw [impl_DecText.j0]
 unfold body
 by_cases c : e ≥ 0
 ·rw [if_pos c, if_pos c, if_pos (by omega)]
  obtain ⟨j, rfl⟩ := Int.eq_ofNat_of_zero_le c
  rw [rep j (by omega), Option.bind_some, Int.toNat_natCast, if_pos (by rw [ByteArray.size_append, zeros_size]; omega), ByteArray.append_assoc]
 ·rw [if_neg c, if_neg c, w64 (-e) (by omega), w64 (-e - (s.size : Int)) (by omega)]
  by_cases c2 : -e - (s.size : Int) ≥ 0
  ·have e3 : wrap64 (-e - (s.size : Int) + 1) = ((pad s e : Nat) : Int) := by rw [w64 _ (by omega)]; unfold pad; omega
   have hp : pad s e ≤ 10 := by unfold pad; omega
   rw [if_pos c2, e3, rep _ (by omega), Option.bind_some, if_pos (by rw [zeros_size]; omega)]
   have hz : (zeros (pad s e) ++ s).size = pad s e + s.size := by rw [ByteArray.size_append, zeros_size]
   exact impl_cut mi _ e hm (by omega) (by rw [hz]; unfold pad; omega) (by omega)
  ·have hp : pad s e = 0 := by unfold pad; omega
   rw [if_neg c2, hp, zeros_zero, nil_append]
   exact impl_cut mi s e hm (by omega) (by omega) (by omega)
def minusOf (m : Int) : ByteArray := if m < 0 then (⟨#[45]⟩ : ByteArray) else (⟨#[]⟩ : ByteArray)
def full (m e : Int) : ByteArray := minusOf m ++ body (dd m.natAbs) e
theorem body_size (s : ByteArray) (e : Int) (hs : 1 ≤ s.size ∧ s.size ≤ 100) (he : -8 ≤ e ∧ e ≤ 8) : (body s e).size ≤ 1000 := by
 unfold body
 split
 ·rw [ByteArray.size_append, zeros_size]; omega
 ·unfold cutAt
  have hz : (zeros (pad s e) ++ s).size = pad s e + s.size := by rw [ByteArray.size_append, zeros_size]
  have hp : pad s e ≤ 10 := by unfold pad; omega
  have h1 : ∀ (x : ByteArray) (a b : Nat), (x.extract a b).size ≤ x.size := fun x a b => by rw [ByteArray.size_extract]; omega
  have h2 := h1 (zeros (pad s e) ++ s) 0 (((zeros (pad s e) ++ s).size : Int) + e).toNat
  have h3 := h1 (zeros (pad s e) ++ s) (((zeros (pad s e) ++ s).size : Int) + e).toNat (zeros (pad s e) ++ s).size
  rw [ByteArray.size_append, ByteArray.size_append]
  have h4 : ((⟨#[46]⟩ : ByteArray)).size = 1 := rfl
  omega
theorem ok_bounds {m e : Int} (h : Ok m e) : -99999999 ≤ m ∧ m ≤ 99999999 ∧ -8 ≤ e ∧ e ≤ 8 := by unfold Ok at h; omega
theorem size_eq (m : Int) (h : -99999999 ≤ m ∧ m ≤ 99999999) : impl_size.f m = some ((m.natAbs : Nat) : Int) := by
 unfold impl_size.f mx
 rw [w64 (-m) (by omega)]
 by_cases c : m < -m
 ·rw [if_pos c]; congr 1; omega
 ·rw [if_neg c]; congr 1; omega
theorem itoa_eq (n : Nat) (h : n ≤ 99999999) (l : List Int) : strconv_Itoa.f (n : Int) l = some (dd n) := by
 unfold strconv_Itoa.f
 rw [if_pos (by omega)]
 unfold Lib.itoa
 rw [if_neg (by omega), Int.toNat_natCast]
 rfl
theorem dd_bounds (n : Nat) (h : n ≤ 99999999) : 1 ≤ (dd n).size ∧ (dd n).size ≤ 100 := by
 have h1 := Lib.nDigits_pos n
 have h2 := nd_100 n h
 rw [dd_size]; omega
theorem impl_text (m e : Int) (h : Ok m e) (l : List Int) : Evn (fun k => impl_DecText.f k m e l) (full m e) := by
 have b := ok_bounds h
 refine Evn.step (g' := fun _ => some (full m e)) (fun k => ?_) (Evn.pure _)
 unfold impl_DecText.f
 rw [impl_ok, decide_eq_true h, Option.bind_some, if_pos rfl, size_eq m (by omega), Option.bind_some, itoa_eq _ (by omega), Option.bind_some]
 unfold full minusOf
 have hd := dd_bounds m.natAbs (by omega)
 by_cases c : m < 0
 ·rw [if_pos c, if_pos c]
  exact impl_j0 k _ _ m e hd (by decide) (by omega)
 ·rw [if_neg c, if_neg c]
  exact impl_j0 k _ _ m e hd (by decide) (by omega)
theorem spec_text (m e : Int) (h : Ok m e) : Evn (fun k => spec_l1Text.f k m e) (full m e) := by
 have b := ok_bounds h
 have hd := dd_bounds m.natAbs (by omega)
 have hb := body_size _ e hd (by omega)
 have hev := body_ev m.natAbs e (by omega) (by omega)
 unfold full minusOf
 by_cases c : m < 0
 ·rw [if_pos c]
  rw [show ((m.natAbs : Nat) : Int) = -m by omega] at hev
  refine Evn.step (g' := fun k => (spec_l1Text.f k (-m) e).bind fun t120 => (if 1 + t120.size ≤ 9223372036854775807 then (some ((⟨#[45]⟩ : ByteArray) ++ t120)) else (none))) (fun k => ?_) ?_
  ·rw [spec_l1Text.f, if_pos c, spec_l1Neg.f, w64 (-m) (by omega)]; rfl
  ·exact Evn.bind hev (Evn.ite_pos (by omega) (Evn.pure _))
 ·rw [if_neg c, nil_append]
  rw [show ((m.natAbs : Nat) : Int) = m by omega] at hev
  exact hev
end Go.Proofs.YthaceblepbkjjaaDoor.Tx
