import Derived.Test.YtihepjjjdjemfaaDoorBFnExactJsonWidePt
import Derived.Test.YtihepjjjdjemfaaDoorBFnExactJsonWideq4
namespace Go.Proofs.YtihepjjjdjemfaaDoor.Pw
set_option linter.unusedVariables false
set_option linter.unusedSimpArgs false
open Go.RowKit Go.Proofs.YtihepjjjdjemfaaDoor.Q Go.Proofs.YtihepjjjdjemfaaDoor.Evs Go.Proofs.YtihepjjjdjemfaaDoor.Th Go.Proofs.YtihepjjjdjemfaaDoor.Tv Go.Proofs.YtihepjjjdjemfaaDoor.Pt Go.Proofs.YtihepjjjdjemfaaDoorW.PrintWords Go.Proofs.YtihepjjjdjemfaaDoorW.PrintLast
def sp1 : ByteArray := ⟨#[32]⟩
def cs : ByteArray := ⟨#[58, 32]⟩
theorem cs_eq : colon ++ sp1 = cs := by decide
abbrev wput (k : Nat) (x : S33) (outer : ByteArray) := spec_l12Wide.f k x.f0 x.f1.f0 x.f1.f1 x.f2 x.f3 x.f4 outer
abbrev wpcs (g : S33 → ByteArray) (x : S33) (outer : ByteArray) (d i : Nat) := pcs g (decide (x.f0 = 6)) (nl ++ (outer ++ sp2)) sp1 x.f3 x.f4 d i
theorem wide_l0 (x : S33) (outer : ByteArray) (g : S33 → ByteArray) (hou : outer.size ≤ 40) (hlen : x.f3.length ≤ 1048576) (hnm : x.f0 = 6 → x.f4.length = x.f3.length ∧ ∀ j, j < x.f4.length → (nameAt x.f4 j).size ≤ 12)
  (ih : ∀ y, y ∈ x.f3 → Evn (fun k => wput k y (outer ++ sp2)) (g y)) (hg : ∀ y, y ∈ x.f3 → (g y).size ≤ 100000000000) :
  ∀ (d i : Nat) (acc : ByteArray), i + d = x.f3.length → (fl acc (decide (i = 0)) (wpcs g x outer d i)).size ≤ 100000000000 →
  Evn (fun k => spec_l12Wide.l0 k outer acc (i : Int) x.f0 x.f1.f0 x.f1.f1 x.f2 x.f3 x.f4) (((op x.f0 ++ fl acc (decide (i = 0)) (wpcs g x outer d i)) ++ (nl ++ outer)) ++ cl x.f0)
 | 0, i, acc, hd, hT => by
  have hT' : acc.size ≤ 100000000000 := hT
  have hnl : nl.size = 1 := rfl
  show Evn _ (((op x.f0 ++ acc) ++ (nl ++ outer)) ++ cl x.f0)
  rw [show (op x.f0 ++ acc) ++ (nl ++ outer) = ((op x.f0 ++ acc) ++ nl) ++ outer from (assoc _ _ _).symm]
  refine Evn.step (g' := fun _ => some ((((op x.f0 ++ acc) ++ nl) ++ outer) ++ cl x.f0)) (fun k => ?_) (Evn.pure _)
  rw [spec_l12Wide.l0, if_neg (by omega), show (⟨#[10]⟩ : ByteArray) = nl from rfl]
  by_cases c : x.f0 = 6
  ·have : op x.f0 = ⟨#[123]⟩ ∧ cl x.f0 = ⟨#[125]⟩ := by unfold op cl; rw [if_pos c, if_pos c]; exact ⟨rfl, rfl⟩
   have z : (⟨#[123]⟩ : ByteArray).size = 1 := rfl
   rw [if_pos c, if_pos (by omega), if_pos (by rw [ByteArray.size_append]; omega), if_pos (by rw [ByteArray.size_append, ByteArray.size_append]; omega), if_pos (by rw [ByteArray.size_append, ByteArray.size_append, ByteArray.size_append]; omega), this.1, this.2]
  ·have : op x.f0 = ⟨#[91]⟩ ∧ cl x.f0 = ⟨#[93]⟩ := by unfold op cl; rw [if_neg c, if_neg c]; exact ⟨rfl, rfl⟩
   have z : (⟨#[91]⟩ : ByteArray).size = 1 := rfl
   rw [if_neg c, if_pos (by omega), if_pos (by rw [ByteArray.size_append]; omega), if_pos (by rw [ByteArray.size_append, ByteArray.size_append]; omega), if_pos (by rw [ByteArray.size_append, ByteArray.size_append, ByteArray.size_append]; omega), this.1, this.2]
 | d + 1, i, acc, hd, hT => by
  have hi : i < x.f3.length := by omega
  obtain ⟨ei, hm⟩ := item_mem x.f3 i hi
  have hge := fl_ge (wpcs g x outer d (i + 1)) ((if decide (i = 0) = true then acc else acc ++ comma) ++ piece g (decide (x.f0 = 6)) (nl ++ (outer ++ sp2)) sp1 x.f3 x.f4 i) false
  have hT' : (fl ((if decide (i = 0) = true then acc else acc ++ comma) ++ piece g (decide (x.f0 = 6)) (nl ++ (outer ++ sp2)) sp1 x.f3 x.f4 i) false (wpcs g x outer d (i + 1))).size ≤ 100000000000 := hT
  have IH := wide_l0 x outer g hou hlen hnm ih hg d (i + 1) ((if decide (i = 0) = true then acc else acc ++ comma) ++ piece g (decide (x.f0 = 6)) (nl ++ (outer ++ sp2)) sp1 x.f3 x.f4 i) (by omega) (by rw [decide_eq_false (show ¬ i + 1 = 0 by omega)]; exact hT')
  rw [decide_eq_false (show ¬ i + 1 = 0 by omega)] at IH
  have hacc : (if decide (i = 0) = true then acc else acc ++ comma).size ≤ 100000000000 := by
   rw [ByteArray.size_append] at hge; omega
  have h0 : acc.size ≤ 100000000000 := by
   split at hacc
   ·exact hacc
   ·rw [ByteArray.size_append] at hacc; omega
  have key0 : ∀ k, spec_l12Wide.l0 (k + 1) outer acc (i : Int) x.f0 x.f1.f0 x.f1.f1 x.f2 x.f3 x.f4 = spec_l12Wide.j1 k outer (if decide (i = 0) = true then acc else acc ++ comma) (i : Int) x.f0 x.f1.f0 x.f1.f1 x.f2 x.f3 x.f4 := by
   intro k
   rw [spec_l12Wide.l0, if_pos (by omega)]
   by_cases c : i = 0
   ·rw [if_neg (by omega), if_pos (decide_eq_true c)]
   ·rw [show (if decide (i = 0) = true then acc else acc ++ comma) = acc ++ comma from if_neg (by simpa using c), if_pos (by omega), if_pos (by omega)]; rfl
  refine Evn.step key0 ?_
  show Evn _ (((op x.f0 ++ fl ((if decide (i = 0) = true then acc else acc ++ comma) ++ piece g (decide (x.f0 = 6)) (nl ++ (outer ++ sp2)) sp1 x.f3 x.f4 i) false (wpcs g x outer d (i + 1))) ++ (nl ++ outer)) ++ cl x.f0)
  generalize hA : (if decide (i = 0) = true then acc else acc ++ comma) = A at *
  have hgi := hg _ hm
  have hnl : nl.size = 1 := rfl
  have hs2 : sp2.size = 2 := rfl
  have hB : (((A ++ nl) ++ outer) ++ sp2).size ≤ 200000000000 := by simp only [ByteArray.size_append]; omega
  have key1 : ∀ k, spec_l12Wide.j1 (k + 1) outer A (i : Int) x.f0 x.f1.f0 x.f1.f1 x.f2 x.f3 x.f4 = if x.f0 = 6 then (if (i : Int) < (x.f4.length : Int) then ((spec_l7Quote.f k (nameAt x.f4 i)).bind fun t => if (((A ++ nl) ++ outer) ++ sp2).size + t.size ≤ 9223372036854775807 then (if ((((A ++ nl) ++ outer) ++ sp2) ++ t).size + 2 ≤ 9223372036854775807 then ((wput k (itemAt x.f3 i) (outer ++ sp2)).bind fun t220 => if (((((A ++ nl) ++ outer) ++ sp2) ++ t) ++ cs).size + t220.size ≤ 9223372036854775807 then spec_l12Wide.l0 k outer ((((((A ++ nl) ++ outer) ++ sp2) ++ t) ++ cs) ++ t220) ((i + 1 : Nat) : Int) x.f0 x.f1.f0 x.f1.f1 x.f2 x.f3 x.f4 else none) else none) else none) else none) else ((wput k (itemAt x.f3 i) (outer ++ sp2)).bind fun t => if (((A ++ nl) ++ outer) ++ sp2).size + t.size ≤ 9223372036854775807 then spec_l12Wide.l0 k outer ((((A ++ nl) ++ outer) ++ sp2) ++ t) ((i + 1 : Nat) : Int) x.f0 x.f1.f0 x.f1.f1 x.f2 x.f3 x.f4 else none) := by
   intro k
   rw [spec_l12Wide.j1, show (⟨#[10]⟩ : ByteArray) = nl from rfl, show (⟨#[32, 32]⟩ : ByteArray) = sp2 from rfl, show (⟨#[58, 32]⟩ : ByteArray) = cs from rfl, if_pos (by omega), if_pos (by rw [ByteArray.size_append]; omega), if_pos (by rw [ByteArray.size_append, ByteArray.size_append]; omega), w1 i (by omega)]
   simp only [if_pos (show (0 : Int) ≤ (i : Int) by omega), if_pos (show (i : Int) < (x.f3.length : Int) by omega), if_pos (show outer.size + 2 ≤ 9223372036854775807 by omega)]
  refine Evn.step key1 ?_
  by_cases c : x.f0 = 6
  ·obtain ⟨q1, q2⟩ := hnm c
   have hq := q2 i (by omega)
   have hqs := Jt.quoted_size (nameAt x.f4 i)
   have hcs : cs.size = 2 := rfl
   refine Evn.ite_pos c (Evn.ite_pos (by omega) (Evn.bind (Jt.spec_put (nameAt x.f4 i) (by omega)) (Evn.ite_pos (by omega) (Evn.ite_pos (by rw [ByteArray.size_append]; omega) (Evn.bind (a := g x.f3[i]) (by rw [ei]; exact ih _ hm) (Evn.ite_pos (by rw [ByteArray.size_append, ByteArray.size_append]; omega) ?_))))))
   have e : (((((A ++ nl) ++ outer) ++ sp2) ++ Jt.quoted (nameAt x.f4 i)) ++ cs) ++ g x.f3[i] = A ++ piece g (decide (x.f0 = 6)) (nl ++ (outer ++ sp2)) sp1 x.f3 x.f4 i := by
    unfold piece
    rw [if_pos (decide_eq_true c), ei, ← cs_eq]
    simp only [assoc]
   rw [e]
   exact IH
  ·refine Evn.ite_neg c (Evn.bind (a := g x.f3[i]) (by rw [ei]; exact ih _ hm) (Evn.ite_pos (by omega) ?_))
   have e : (((A ++ nl) ++ outer) ++ sp2) ++ g x.f3[i] = A ++ piece g (decide (x.f0 = 6)) (nl ++ (outer ++ sp2)) sp1 x.f3 x.f4 i := by
    unfold piece
    rw [if_neg (by simpa using c), ei]
    simp only [assoc]
   rw [e]
   exact IH
theorem P_none (n : Nat) (x : S33) (outer : ByteArray) (h : x.f3.length = 0) : P true (n + 1) x outer = P false (n + 1) x e0 := by
 rw [P, P, if_neg (show ¬ (true = true ∧ 0 < x.f3.length) by omega), if_neg (show ¬ (false = true ∧ 0 < x.f3.length) by omega), h]
 rfl
theorem wide_ev : ∀ (n : Nat) (x : S33) (outer : ByteArray), Lo n x → Vo.A n x = true → outer.size + 2 * Vo.dp n x ≤ 40 → cI n x ≤ 1048577 → Evn (fun k => wput k x outer) (P true n x outer)
 | 0, _, _, h, _, _, _ => h.elim
 | n + 1, x, outer, hLo, hA, hd, hc => by
  have hsz := P_size true (n + 1) x outer hLo hA hd
  have key : ∀ k, wput (k + 1) x outer = if (x.f3.length : Int) = 0 then ((sput k x).bind fun t => some t) else spec_l12Wide.l0 k outer e0 ((0 : Nat) : Int) x.f0 x.f1.f0 x.f1.f1 x.f2 x.f3 x.f4 := by
   intro k
   show spec_l12Wide.f (k + 1) _ _ _ _ _ _ _ = _
   rw [spec_l12Wide.f]; rfl
  refine Evn.step key ?_
  by_cases h0 : x.f3.length = 0
  ·rw [P_none n x outer h0]
   exact Evn.ite_pos (by omega) (Evn.bind (put_ev (n + 1) x hLo hA (by omega) hc) (Evn.pure _))
  refine Evn.ite_neg (by omega) ?_
  obtain ⟨hl, hk, hn, hs⟩ := hLo
  have hA' : (Vo.oneB x && x.f3.all (Vo.A n)) = true := hA
  rw [Bool.and_eq_true, List.all_eq_true] at hA'
  obtain ⟨q3, q4, q6⟩ := one_facts x hA'.1
  have hpre : ¬ x.f0 < 5 := fun h => by
   have h1 := hA'.1
   unfold Vo.oneB at h1
   rw [Bool.and_eq_true] at h1
   have h2 := of_decide_eq_true h1.1
   exact h0 (h2.2.2.1 h)
  have hdp : ∀ y, y ∈ x.f3 → Vo.dp n y + 1 ≤ Vo.dp (n + 1) x := fun y hy => by
   have := ((Vo.mx_le (Vo.dp n) x.f3 0 _).1 (Nat.le_refl _)).2 y hy
   show _ ≤ Vo.mx (Vo.dp n) x.f3 0 + 1
   omega
  have hs2 : (outer ++ sp2).size = outer.size + 2 := by rw [ByteArray.size_append]; rfl
  have hcc : ∀ y, y ∈ x.f3 → cI n y ≤ 1048577 := fun y hy => by
   have h1 := sumC_mem (cI n) x.f3 y hy
   have h2 : cI (n + 1) x = 1 + sumC (cI n) x.f3 := rfl
   omega
  have hg2 : ∀ y, y ∈ x.f3 → (P true n y (outer ++ sp2)).size ≤ 100000000000 := fun y hy => by
   have h1 := hcc y hy
   have h2 := P_size true n y (outer ++ sp2) (hk y hy) (hA'.2 y hy) (by have := hdp y hy; omega)
   omega
  rw [P, if_neg (by omega), if_neg (by omega), if_neg (by omega), if_neg (by omega), if_neg (by omega), if_pos ⟨rfl, by omega⟩] at hsz ⊢
  have hloop := wide_l0 x outer (fun y => P true n y (outer ++ sp2)) (by omega) hl q6 (fun y hy => wide_ev n y (outer ++ sp2) (hk y hy) (hA'.2 y hy) (by have := hdp y hy; omega) (hcc y hy)) hg2 x.f3.length 0 e0 (by omega)
  rw [decide_eq_true rfl] at hloop
  refine hloop ?_
  show (fl e0 true (pcs (fun y => P true n y (outer ++ sp2)) (decide (x.f0 = 6)) (nl ++ (outer ++ sp2)) ⟨#[32]⟩ x.f3 x.f4 x.f3.length 0)).size ≤ 100000000000
  simp only [ByteArray.size_append] at hsz
  omega
theorem wide_both (m : Nat) (hm : m ≤ 2000000) (z : S33) (hL : Lo m z) (hc : cI m z ≤ 1048577) (l : List Int) : ∃ r, Evn (fun k => spec_JsonWide.f k z.f0 z.f1.f0 z.f1.f1 z.f2 z.f3 z.f4) r ∧ Evn (fun k => impl_JsonWide.f k z.f0 z.f1.f0 z.f1.f1 z.f2 z.f3 z.f4 [Nm.words] l) r := by
 obtain ⟨b, hb, hb', hB⟩ := Vo.ok_ev m hm z hL
 by_cases c : b = true
 ·obtain ⟨hd, hA⟩ := hB c
  subst c
  have hd2 : e0.size + 2 * Vo.dp m z ≤ 40 := by rw [show e0.size = 0 from rfl]; omega
  refine ⟨P true m z e0, ?_, ?_⟩
  ·unfold spec_JsonWide.f
   exact Evn.bind hb (Evn.ite_pos rfl (Evn.bind (wide_ev m z e0 hL hA hd2 hc) (Evn.pure _)))
  ·unfold impl_JsonWide.f
   exact Evn.bind hb' (Evn.ite_pos rfl (Evn.bind (lay_ev true l m z e0 hL hA hd2 hc) (Evn.pure _)))
 ·refine ⟨e0, ?_, ?_⟩
  ·unfold spec_JsonWide.f
   exact Evn.bind hb (Evn.ite_neg c (Evn.pure _))
  ·unfold impl_JsonWide.f
   exact Evn.bind hb' (Evn.ite_neg c (Evn.pure _))
theorem law (n : Nat) (x : S27) (hf : Fine n x) (l : List Int) : Evn (fun k => laws_FnExactJsonWide.f k x.f0 x.f1.f0 x.f1.f1 x.f2 x.f3 x.f4 [Nm.words] l) true := by
 unfold laws_FnExactJsonWide.f
 obtain ⟨r, hr, hrl, hrL⟩ := Tv.sz_ev n x hf 1048576 (by omega) (by omega)
 refine Evn.bind hr ?_
 by_cases c : r < 0
 ·exact Evn.ite_pos c (Evn.pure _)
 refine Evn.ite_neg c ?_
 obtain ⟨⟨m, hm, hL⟩, hC⟩ := hrL (by omega)
 obtain ⟨z, hz, hLo, hcz⟩ := Tv.to_ev m x hL
 have hcc := hC m
 have hcm := hcz m
 obtain ⟨t, ht, ht'⟩ := wide_both m (by omega) z hLo (by omega) l
 exact Evn.bind hz (Evn.bind ht (Evn.bind hz (Evn.bind ht' (Evn.ite_pos rfl (Evn.bind hz (Evn.bind (Tv.eq_ev m z hLo) (Evn.ite_pos rfl (Evn.pure _))))))))
end Go.Proofs.YtihepjjjdjemfaaDoor.Pw
