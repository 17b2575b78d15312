import Derived.Test.YthaceblepbkjjaaDoorBFnExactIniPutVo
import Derived.Test.YthaceblepbkjjaaDoorBFnExactIniPutTx
import Derived.Test.YthaceblepbkjjaaDoorBFnExactIniPutJt
import Derived.Lib.Join
import Derived.Test.YthaceblepbkjjaaDoorBFnExactIniPutq4
namespace Go.Proofs.YthaceblepbkjjaaDoor.Pt
set_option linter.unusedVariables false
set_option linter.unusedSimpArgs false
open Go.RowKit Go.Proofs.YthaceblepbkjjaaDoor.Q Go.Proofs.YthaceblepbkjjaaDoor.Evs Go.Proofs.YthaceblepbkjjaaDoor.Th Go.Proofs.YthaceblepbkjjaaDoor.Tv Go.Proofs.YthaceblepbkjjaaDoorW.PrintWords Go.Proofs.YthaceblepbkjjaaDoorW.PrintLast
/-! ### a value as a text -/
def e0 : ByteArray := ⟨#[]⟩
def sp2 : ByteArray := ⟨#[32, 32]⟩
def nl : ByteArray := ⟨#[10]⟩
def comma : ByteArray := ⟨#[44]⟩
def colon : ByteArray := ⟨#[58]⟩
theorem e0_app (a : ByteArray) : e0 ++ a = a := by apply ByteArray.ext; simp [e0, ByteArray.data_append]
theorem app_e0 (a : ByteArray) : a ++ e0 = a := by apply ByteArray.ext; simp [e0, ByteArray.data_append]
theorem assoc (a b c : ByteArray) : (a ++ b) ++ c = a ++ (b ++ c) := by apply ByteArray.ext; simp [ByteArray.data_append]
abbrev nameAt (ns : List ByteArray) (i : Nat) := rdOf ByteArray.empty ns (i : Int)
abbrev itemAt (xs : List S34) (i : Nat) := rd_T34 xs (i : Int)
def piece (g : S34 → ByteArray) (o : Bool) (line blank : ByteArray) (xs : List S34) (ns : List ByteArray) (i : Nat) : ByteArray :=
 if o = true then (line ++ ((Jt.quoted (nameAt ns i) ++ colon) ++ blank)) ++ g (itemAt xs i) else line ++ g (itemAt xs i)
def pcs (g : S34 → ByteArray) (o : Bool) (line blank : ByteArray) (xs : List S34) (ns : List ByteArray) : Nat → Nat → List ByteArray
 | 0, _ => []
 | d + 1, i => piece g o line blank xs ns i :: pcs g o line blank xs ns d (i + 1)
def fl : ByteArray → Bool → List ByteArray → ByteArray
 | acc, _, [] => acc
 | acc, first, y :: ys => fl ((if first = true then acc else acc ++ comma) ++ y) false ys
theorem fl_false : ∀ (ys : List ByteArray) (acc : ByteArray), fl acc false ys = acc ++ (⟨(Lib.joinTail [44] (ys.map (·.data.toList))).toArray⟩ : ByteArray)
 | [], acc => by apply ByteArray.ext; simp [fl, Lib.joinTail, ByteArray.data_append]
 | y :: ys, acc => by
  rw [fl, fl_false ys]
  apply ByteArray.ext
  apply Array.ext'
  simp [Lib.joinTail, ByteArray.data_append, comma]
theorem join_fl (ys : List ByteArray) : (⟨(Lib.join (ys.map (·.data.toList)) [44]).toArray⟩ : ByteArray) = fl e0 true ys := by
 cases ys with
 | nil => rfl
 | cons y ys =>
  rw [fl, if_pos rfl, e0_app, fl_false, List.map_cons, Lib.join_cons]
  apply ByteArray.ext
  simp [ByteArray.data_append]
theorem fl_ge : ∀ (ys : List ByteArray) (acc : ByteArray) (b : Bool), acc.size ≤ (fl acc b ys).size
 | [], acc, b => Nat.le_refl _
 | y :: ys, acc, b => by
  have := fl_ge ys ((if b = true then acc else acc ++ comma) ++ y) false
  rw [fl]
  split at this <;> simp only [ByteArray.size_append] at this <;> simp_all <;> omega
theorem fl_le : ∀ (ys : List ByteArray) (acc : ByteArray) (b : Bool), (fl acc b ys).size ≤ acc.size + sumC (fun y => y.size + 1) ys
 | [], acc, b => Nat.le_refl _
 | y :: ys, acc, b => by
  have := fl_le ys ((if b = true then acc else acc ++ comma) ++ y) false
  rw [fl]
  have e : ((if b = true then acc else acc ++ comma) ++ y).size ≤ acc.size + 1 + y.size := by
   rw [ByteArray.size_append]
   split
   ·omega
   ·rw [ByteArray.size_append, show comma.size = 1 from rfl]; omega
  show _ ≤ acc.size + ((y.size + 1) + sumC (fun y => y.size + 1) ys)
  omega
def op (k : Int) : ByteArray := if k = 6 then ⟨#[123]⟩ else ⟨#[91]⟩
def cl (k : Int) : ByteArray := if k = 6 then ⟨#[125]⟩ else ⟨#[93]⟩
def P (w : Bool) : Nat → S34 → ByteArray → ByteArray
 | 0, _, _ => e0
 | n + 1, x, outer =>
  if x.f0 = 0 then ⟨#[110, 117, 108, 108]⟩ else if x.f0 = 1 then ⟨#[116, 114, 117, 101]⟩ else if x.f0 = 2 then ⟨#[102, 97, 108, 115, 101]⟩
  else if x.f0 = 3 then Tx.full x.f1.f0 x.f1.f1 else if x.f0 = 4 then Jt.quoted x.f2
  else if w = true ∧ 0 < x.f3.length then
   ((op x.f0 ++ fl e0 true (pcs (fun y => P w n y (outer ++ sp2)) (decide (x.f0 = 6)) (nl ++ (outer ++ sp2)) ⟨#[32]⟩ x.f3 x.f4 x.f3.length 0)) ++ (nl ++ outer)) ++ cl x.f0
  else ((op x.f0 ++ fl e0 true (pcs (fun y => P w n y e0) (decide (x.f0 = 6)) e0 e0 x.f3 x.f4 x.f3.length 0)) ++ e0) ++ cl x.f0

/-! ### what is known of a value that is ok -/
theorem all_names : ∀ (xs : List ByteArray) (d i : Nat), Vo.allB xs d i = true → ∀ j, i ≤ j → j < i + d → (nameAt xs j).size ≤ 12
 | xs, 0, i, _, j, h1, h2 => by omega
 | xs, d + 1, i, h, j, h1, h2 => by
  have h' : (Vo.okB xs i && Vo.allB xs d (i + 1)) = true := h
  rw [Bool.and_eq_true] at h'
  by_cases e : j = i
  ·subst e
   have hk := h'.1
   unfold Vo.okB at hk
   rw [Bool.and_eq_true] at hk
   have hn := hk.1
   unfold Nm.nameB at hn
   rw [Bool.and_eq_true, Bool.and_eq_true] at hn
   have := of_decide_eq_true hn.1.2
   exact this.2
  ·exact all_names xs d (i + 1) h'.2 j (by omega) (by omega)
theorem one_facts (x : S34) (h : Vo.oneB x = true) : (x.f0 = 3 → Ok x.f1.f0 x.f1.f1) ∧ (x.f0 = 4 → x.f2.size ≤ 1500) ∧ (x.f0 = 6 → x.f4.length = x.f3.length ∧ ∀ j, j < x.f4.length → (nameAt x.f4 j).size ≤ 12) := by
 unfold Vo.oneB at h
 rw [Bool.and_eq_true] at h
 have hp := h.2
 unfold Vo.postB at hp
 refine ⟨fun e => ?_, fun e => ?_, fun e => ?_⟩
 ·rw [if_neg (by omega), if_pos e] at hp; exact of_decide_eq_true hp
 ·rw [if_neg (by omega), if_neg (by omega), if_pos e] at hp; have := of_decide_eq_true hp; omega
 ·rw [if_neg (by omega), if_neg (by omega), if_neg (by omega), if_pos e, Bool.and_eq_true] at hp
  exact ⟨of_decide_eq_true hp.2, fun j hj => all_names x.f4 x.f4.length 0 hp.1 j (by omega) (by omega)⟩
theorem sumC_mem {α : Type} (f : α → Nat) : ∀ (xs : List α) (y : α), y ∈ xs → f y ≤ sumC f xs
 | x :: xs, y, h => by
  show _ ≤ f x + sumC f xs
  rcases List.mem_cons.1 h with rfl | h
  ·omega
  ·have := sumC_mem f xs y h; omega
theorem item_mem (xs : List S34) (i : Nat) (hi : i < xs.length) : itemAt xs i = xs[i] ∧ xs[i] ∈ xs := ⟨by unfold itemAt; simp only [rd_T34, getD_nat _ _ _ hi], List.getElem_mem hi⟩
theorem piece_size (g : S34 → ByteArray) (o : Bool) (line blank : ByteArray) (xs : List S34) (ns : List ByteArray) (i : Nat) (hl : line.size ≤ 50) (hb : blank.size ≤ 1) (hn : o = true → (nameAt ns i).size ≤ 12) :
  (piece g o line blank xs ns i).size + 1 ≤ (g (itemAt xs i)).size + 200 := by
 unfold piece
 by_cases c : o = true
 ·rw [if_pos c]
  have := Jt.quoted_size (nameAt ns i)
  have := hn c
  have hc : colon.size = 1 := rfl
  simp only [ByteArray.size_append]
  omega
 ·rw [if_neg c, ByteArray.size_append]; omega
theorem pcs_sum (g : S34 → ByteArray) (f : S34 → Nat) (o : Bool) (line blank : ByteArray) (xs : List S34) (ns : List ByteArray) (hl : line.size ≤ 50) (hb : blank.size ≤ 1) (hn : o = true → ∀ i, i < xs.length → (nameAt ns i).size ≤ 12) (hg : ∀ y, y ∈ xs → (g y).size + 1000 ≤ 20000 * f y) :
  ∀ (d i : Nat), i + d = xs.length → sumC (fun y => y.size + 1) (pcs g o line blank xs ns d i) ≤ 20000 * sumC f (xs.drop i)
 | 0, i, hd => by
  show 0 ≤ _; omega
 | d + 1, i, hd => by
  have hi : i < xs.length := by omega
  have ih := pcs_sum g f o line blank xs ns hl hb hn hg d (i + 1) (by omega)
  obtain ⟨e, hm⟩ := item_mem xs i hi
  have hp := piece_size g o line blank xs ns i hl hb (fun h => hn h i hi)
  rw [e] at hp
  have h2 := hg _ hm
  rw [List.drop_eq_getElem_cons hi]
  show ((piece g o line blank xs ns i).size + 1) + sumC (fun y => y.size + 1) (pcs g o line blank xs ns d (i + 1)) ≤ 20000 * (f xs[i] + sumC f (xs.drop (i + 1)))
  omega
theorem opcl (k : Int) : (op k).size = 1 ∧ (cl k).size = 1 := by
 unfold op cl
 by_cases c : k = 6
 ·rw [if_pos c, if_pos c]; exact ⟨rfl, rfl⟩
 ·rw [if_neg c, if_neg c]; exact ⟨rfl, rfl⟩
theorem P_size (w : Bool) : ∀ (n : Nat) (x : S34) (outer : ByteArray), Lo n x → Vo.A n x = true → outer.size + 2 * Vo.dp n x ≤ 40 → (P w n x outer).size + 1000 ≤ 20000 * cI n x
 | 0, _, _, h, _, _ => h.elim
 | n + 1, x, outer, ⟨hl, hk, hn, hs⟩, hA, hd => by
  have hA' : (Vo.oneB x && x.f3.all (Vo.A n)) = true := hA
  rw [Bool.and_eq_true, List.all_eq_true] at hA'
  obtain ⟨q3, q4, q6⟩ := one_facts x hA'.1
  have hc : cI (n + 1) x = 1 + sumC (cI n) x.f3 := rfl
  have hdp : ∀ y, y ∈ x.f3 → Vo.dp n y + 1 ≤ Vo.dp (n + 1) x := fun y hy => by
   have := ((Vo.mx_le (Vo.dp n) x.f3 0 _).1 (Nat.le_refl _)).2 y hy
   show _ ≤ Vo.mx (Vo.dp n) x.f3 0 + 1
   omega
  have hnm : decide (x.f0 = 6) = true → ∀ i, i < x.f3.length → (nameAt x.f4 i).size ≤ 12 := fun h i hi => by
   obtain ⟨e1, e2⟩ := q6 (of_decide_eq_true h)
   exact e2 i (by omega)
  obtain ⟨o1, o2⟩ := opcl x.f0
  rw [hc, P]
  by_cases h0 : x.f0 = 0
  ·rw [if_pos h0]; show 4 + 1000 ≤ _; omega
  rw [if_neg h0]
  by_cases h1 : x.f0 = 1
  ·rw [if_pos h1]; show 4 + 1000 ≤ _; omega
  rw [if_neg h1]
  by_cases h2 : x.f0 = 2
  ·rw [if_pos h2]; show 5 + 1000 ≤ _; omega
  rw [if_neg h2]
  by_cases h3 : x.f0 = 3
  ·rw [if_pos h3]
   have hb := Tx.ok_bounds (q3 h3)
   have := Tx.body_size (Tx.dd x.f1.f0.natAbs) x.f1.f1 (Tx.dd_bounds _ (by omega)) ⟨hb.2.2.1, hb.2.2.2⟩
   have hm : (Tx.minusOf x.f1.f0).size ≤ 1 := by unfold Tx.minusOf; split <;> decide
   unfold Tx.full
   rw [ByteArray.size_append]
   omega
  rw [if_neg h3]
  by_cases h4 : x.f0 = 4
  ·rw [if_pos h4]
   have := Jt.quoted_size x.f2
   have := q4 h4
   omega
  rw [if_neg h4]
  by_cases hw : w = true ∧ 0 < x.f3.length
  ·rw [if_pos hw]
   have hd1 : 1 ≤ Vo.dp (n + 1) x := by show 1 ≤ Vo.mx (Vo.dp n) x.f3 0 + 1; omega
   have hs2 : (outer ++ sp2).size = outer.size + 2 := by rw [ByteArray.size_append]; rfl
   have hnl : nl.size = 1 := rfl
   have h := pcs_sum (fun y => P w n y (outer ++ sp2)) (cI n) (decide (x.f0 = 6)) (nl ++ (outer ++ sp2)) ⟨#[32]⟩ x.f3 x.f4 (by rw [ByteArray.size_append]; omega) (by decide) hnm (fun y hy => P_size w n y (outer ++ sp2) (hk y hy) (hA'.2 y hy) (by have := hdp y hy; omega)) x.f3.length 0 (by omega)
   rw [List.drop_zero] at h
   have h5 := fl_le (pcs (fun y => P w n y (outer ++ sp2)) (decide (x.f0 = 6)) (nl ++ (outer ++ sp2)) ⟨#[32]⟩ x.f3 x.f4 x.f3.length 0) e0 true
   rw [show e0.size = 0 from rfl] at h5
   rw [ByteArray.size_append, ByteArray.size_append, ByteArray.size_append, ByteArray.size_append]
   omega
  ·rw [if_neg hw]
   have h := pcs_sum (fun y => P w n y e0) (cI n) (decide (x.f0 = 6)) e0 e0 x.f3 x.f4 (by decide) (by decide) hnm (fun y hy => P_size w n y e0 (hk y hy) (hA'.2 y hy) (by have := hdp y hy; rw [show e0.size = 0 from rfl]; omega)) x.f3.length 0 (by omega)
   rw [List.drop_zero] at h
   have h5 := fl_le (pcs (fun y => P w n y e0) (decide (x.f0 = 6)) e0 e0 x.f3 x.f4 x.f3.length 0) e0 true
   rw [show e0.size = 0 from rfl] at h5
   rw [ByteArray.size_append, ByteArray.size_append, ByteArray.size_append, show e0.size = 0 from rfl]
   omega

/-! ### the reference's, in one line -/
abbrev sput (k : Nat) (x : S34) := spec_l7Put.f k x.f0 x.f1.f0 x.f1.f1 x.f2 x.f3 x.f4
theorem put_l0 (x : S34) (g : S34 → ByteArray) (hlen : x.f3.length ≤ 1048576) (hnm : x.f0 = 6 → x.f4.length = x.f3.length ∧ ∀ j, j < x.f4.length → (nameAt x.f4 j).size ≤ 12)
  (ih : ∀ y, y ∈ x.f3 → Evn (fun k => sput k y) (g y)) (hg : ∀ y, y ∈ x.f3 → (g y).size ≤ 100000000000) :
  ∀ (d i : Nat) (acc : ByteArray), i + d = x.f3.length → (fl acc (decide (i = 0)) (pcs g (decide (x.f0 = 6)) e0 e0 x.f3 x.f4 d i)).size ≤ 100000000000 →
  Evn (fun k => spec_l7Put.l0 k acc (i : Int) x.f0 x.f1.f0 x.f1.f1 x.f2 x.f3 x.f4) ((op x.f0 ++ fl acc (decide (i = 0)) (pcs g (decide (x.f0 = 6)) e0 e0 x.f3 x.f4 d i)) ++ cl x.f0)
 | 0, i, acc, hd, hT => by
  refine Evn.step (g' := fun _ => some ((op x.f0 ++ acc) ++ cl x.f0)) (fun k => ?_) (Evn.pure _)
  have hT' : acc.size ≤ 100000000000 := hT
  rw [spec_l7Put.l0, if_neg (by omega)]
  by_cases c : x.f0 = 6
  ·have : op x.f0 = ⟨#[123]⟩ ∧ cl x.f0 = ⟨#[125]⟩ := by unfold op cl; rw [if_pos c, if_pos c]; exact ⟨rfl, rfl⟩
   rw [if_pos c, if_pos (by omega), if_pos (by rw [ByteArray.size_append, show (⟨#[123]⟩ : ByteArray).size = 1 from rfl]; omega), this.1, this.2]
  ·have : op x.f0 = ⟨#[91]⟩ ∧ cl x.f0 = ⟨#[93]⟩ := by unfold op cl; rw [if_neg c, if_neg c]; exact ⟨rfl, rfl⟩
   rw [if_neg c, if_pos (by omega), if_pos (by rw [ByteArray.size_append, show (⟨#[91]⟩ : ByteArray).size = 1 from rfl]; omega), this.1, this.2]
 | d + 1, i, acc, hd, hT => by
  have hi : i < x.f3.length := by omega
  obtain ⟨ei, hm⟩ := item_mem x.f3 i hi
  have hge := fl_ge (pcs g (decide (x.f0 = 6)) e0 e0 x.f3 x.f4 d (i + 1)) ((if decide (i = 0) = true then acc else acc ++ comma) ++ piece g (decide (x.f0 = 6)) e0 e0 x.f3 x.f4 i) false
  have hT' : (fl ((if decide (i = 0) = true then acc else acc ++ comma) ++ piece g (decide (x.f0 = 6)) e0 e0 x.f3 x.f4 i) false (pcs g (decide (x.f0 = 6)) e0 e0 x.f3 x.f4 d (i + 1))).size ≤ 100000000000 := hT
  have IH := put_l0 x g hlen hnm ih hg d (i + 1) ((if decide (i = 0) = true then acc else acc ++ comma) ++ piece g (decide (x.f0 = 6)) e0 e0 x.f3 x.f4 i) (by omega) (by rw [decide_eq_false (show ¬ i + 1 = 0 by omega)]; exact hT')
  rw [decide_eq_false (show ¬ i + 1 = 0 by omega)] at IH
  have hacc : (if decide (i = 0) = true then acc else acc ++ comma).size ≤ 100000000000 := by
   rw [ByteArray.size_append] at hge; omega
  have h0 : acc.size ≤ 100000000000 := by
   split at hacc
   ·exact hacc
   ·rw [ByteArray.size_append] at hacc; omega
  have key0 : ∀ k, spec_l7Put.l0 (k + 1) acc (i : Int) x.f0 x.f1.f0 x.f1.f1 x.f2 x.f3 x.f4 = spec_l7Put.j1 k (if decide (i = 0) = true then acc else acc ++ comma) (i : Int) x.f0 x.f1.f0 x.f1.f1 x.f2 x.f3 x.f4 := by
   intro k
   rw [spec_l7Put.l0, if_pos (by omega)]
   by_cases c : i = 0
   ·rw [if_neg (by omega), if_pos (decide_eq_true c)]
   ·rw [show (if decide (i = 0) = true then acc else acc ++ comma) = acc ++ comma from if_neg (by simpa using c), if_pos (by omega), if_pos (by omega)]; rfl
  refine Evn.step key0 ?_
  show Evn _ ((op x.f0 ++ fl ((if decide (i = 0) = true then acc else acc ++ comma) ++ piece g (decide (x.f0 = 6)) e0 e0 x.f3 x.f4 i) false (pcs g (decide (x.f0 = 6)) e0 e0 x.f3 x.f4 d (i + 1))) ++ cl x.f0)
  generalize hA : (if decide (i = 0) = true then acc else acc ++ comma) = A at *
  have hgi := hg _ hm
  by_cases c : x.f0 = 6
  ·obtain ⟨q1, q2⟩ := hnm c
   have hq := q2 i (by omega)
   have hqs := Jt.quoted_size (nameAt x.f4 i)
   have key1 : ∀ k, spec_l7Put.j1 (k + 1) A (i : Int) x.f0 x.f1.f0 x.f1.f1 x.f2 x.f3 x.f4 = (spec_l7Quote.f k (nameAt x.f4 i)).bind fun t => if A.size + t.size ≤ 9223372036854775807 then (if (A ++ t).size + 1 ≤ 9223372036854775807 then ((sput k (itemAt x.f3 i)).bind fun t212 => if ((A ++ t) ++ colon).size + t212.size ≤ 9223372036854775807 then spec_l7Put.l0 k (((A ++ t) ++ colon) ++ t212) ((i + 1 : Nat) : Int) x.f0 x.f1.f0 x.f1.f1 x.f2 x.f3 x.f4 else none) else none) else none := by
    intro k
    rw [spec_l7Put.j1, if_pos c, if_pos (by omega), if_pos (by omega), w1 i (by omega)]
    simp only [if_pos (show (i : Int) < (x.f3.length : Int) by omega)]
    rfl
   refine Evn.step key1 (Evn.bind (Jt.spec_put (nameAt x.f4 i) (by omega)) (Evn.ite_pos (by omega) (Evn.ite_pos (by rw [ByteArray.size_append]; omega) (Evn.bind (a := g x.f3[i]) (by rw [ei]; exact ih _ hm) (Evn.ite_pos (by rw [ByteArray.size_append, ByteArray.size_append, show colon.size = 1 from rfl]; omega) ?_)))))
   have e : ((A ++ Jt.quoted (nameAt x.f4 i)) ++ colon) ++ g x.f3[i] = A ++ piece g (decide (x.f0 = 6)) e0 e0 x.f3 x.f4 i := by
    unfold piece
    rw [if_pos (decide_eq_true c), ei, e0_app, app_e0, assoc, assoc, assoc]
   rw [e]
   exact IH
  ·have key1 : ∀ k, spec_l7Put.j1 (k + 1) A (i : Int) x.f0 x.f1.f0 x.f1.f1 x.f2 x.f3 x.f4 = (sput k (itemAt x.f3 i)).bind fun t => if A.size + t.size ≤ 9223372036854775807 then spec_l7Put.l0 k (A ++ t) ((i + 1 : Nat) : Int) x.f0 x.f1.f0 x.f1.f1 x.f2 x.f3 x.f4 else none := by
    intro k
    rw [spec_l7Put.j1, if_neg c, if_pos (by omega), if_pos (by omega), w1 i (by omega)]
   refine Evn.step key1 (Evn.bind (a := g x.f3[i]) (by rw [ei]; exact ih _ hm) (Evn.ite_pos (by omega) ?_))
   have e : A ++ g x.f3[i] = A ++ piece g (decide (x.f0 = 6)) e0 e0 x.f3 x.f4 i := by
    unfold piece
    rw [if_neg (by simpa using c), ei, e0_app]
   rw [e]
   exact IH
theorem put_ev : ∀ (n : Nat) (x : S34), Lo n x → Vo.A n x = true → Vo.dp n x ≤ 20 → cI n x ≤ 1048577 → Evn (fun k => sput k x) (P false n x e0)
 | 0, _, h, _, _, _ => h.elim
 | n + 1, x, hLo, hA, hd, hc => by
  have hsz := P_size false (n + 1) x e0 hLo hA (by rw [show e0.size = 0 from rfl]; omega)
  obtain ⟨hl, hk, hn, hs⟩ := hLo
  have hA' : (Vo.oneB x && x.f3.all (Vo.A n)) = true := hA
  rw [Bool.and_eq_true, List.all_eq_true] at hA'
  obtain ⟨q3, q4, q6⟩ := one_facts x hA'.1
  have hdp : ∀ y, y ∈ x.f3 → Vo.dp n y + 1 ≤ Vo.dp (n + 1) x := fun y hy => by
   have := ((Vo.mx_le (Vo.dp n) x.f3 0 _).1 (Nat.le_refl _)).2 y hy
   show _ ≤ Vo.mx (Vo.dp n) x.f3 0 + 1
   omega
  have hcc : ∀ y, y ∈ x.f3 → cI n y ≤ 1048577 := fun y hy => by
   have h1 := sumC_mem (cI n) x.f3 y hy
   have h2 : cI (n + 1) x = 1 + sumC (cI n) x.f3 := rfl
   omega
  have hc2 : ∀ y, y ∈ x.f3 → (P false n y e0).size ≤ 100000000000 := fun y hy => by
   have h1 := hcc y hy
   have h2 := P_size false n y e0 (hk y hy) (hA'.2 y hy) (by have := hdp y hy; rw [show e0.size = 0 from rfl]; omega)
   omega
  have hloop := put_l0 x (fun y => P false n y e0) hl q6 (fun y hy => put_ev n y (hk y hy) (hA'.2 y hy) (by have := hdp y hy; omega) (hcc y hy)) hc2 x.f3.length 0 e0 (by omega)
  rw [decide_eq_true rfl] at hloop
  have key : ∀ k, sput (k + 1) x = if x.f0 = 0 then some (⟨#[110, 117, 108, 108]⟩ : ByteArray) else if x.f0 = 1 then some (⟨#[116, 114, 117, 101]⟩ : ByteArray) else if x.f0 = 2 then some (⟨#[102, 97, 108, 115, 101]⟩ : ByteArray) else if x.f0 = 3 then ((spec_l1Text.f k x.f1.f0 x.f1.f1).bind fun t => some t) else if x.f0 = 4 then ((spec_l7Quote.f k x.f2).bind fun t => some t) else spec_l7Put.l0 k e0 ((0 : Nat) : Int) x.f0 x.f1.f0 x.f1.f1 x.f2 x.f3 x.f4 := by
   intro k
   show spec_l7Put.f (k + 1) _ _ _ _ _ _ = _
   rw [spec_l7Put.f]; rfl
  refine Evn.step key ?_
  rw [P] at hsz ⊢
  by_cases h0 : x.f0 = 0
  ·rw [if_pos h0]; exact Evn.ite_pos h0 (Evn.pure _)
  rw [if_neg h0] at hsz ⊢
  refine Evn.ite_neg h0 ?_
  by_cases h1 : x.f0 = 1
  ·rw [if_pos h1]; exact Evn.ite_pos h1 (Evn.pure _)
  rw [if_neg h1] at hsz ⊢
  refine Evn.ite_neg h1 ?_
  by_cases h2 : x.f0 = 2
  ·rw [if_pos h2]; exact Evn.ite_pos h2 (Evn.pure _)
  rw [if_neg h2] at hsz ⊢
  refine Evn.ite_neg h2 ?_
  by_cases h3 : x.f0 = 3
  ·rw [if_pos h3]; exact Evn.ite_pos h3 (Evn.bind (Tx.spec_text _ _ (q3 h3)) (Evn.pure _))
  rw [if_neg h3] at hsz ⊢
  refine Evn.ite_neg h3 ?_
  by_cases h4 : x.f0 = 4
  ·rw [if_pos h4]; exact Evn.ite_pos h4 (Evn.bind (Jt.spec_put _ (by have := q4 h4; omega)) (Evn.pure _))
  rw [if_neg h4] at hsz ⊢
  refine Evn.ite_neg h4 ?_
  have hw : ¬ (false = true ∧ 0 < x.f3.length) := fun h => by cases h.1
  rw [if_neg hw, app_e0] at hsz ⊢
  refine hloop ?_
  rw [ByteArray.size_append, ByteArray.size_append] at hsz
  omega

/-! ### the program's -/
abbrev lay (k : Nat) (x : S34) (w : Bool) (outer : ByteArray) (l3 : List Int) := impl_layout.f k x.f0 x.f1.f0 x.f1.f1 x.f2 x.f3 x.f4 w outer l3
theorem join_eq (ys : List ByteArray) (h1 : ys.length ≤ 1048576) (h2 : (fl e0 true ys).size ≤ 100000000000) : strings_Join.f ys comma = some (fl e0 true ys) := by
 have e := join_fl ys
 have hs : (Lib.join (ys.map (·.data.toList)) comma.data.toList).length = (fl e0 true ys).size := by
  rw [← e]; show _ = (Array.size _); simp [comma]
 unfold strings_Join.f
 rw [if_pos ⟨by omega, by omega⟩]
 exact congrArg some e
theorem lay_l0 (x : S34) (w : Bool) (inner line blank last br : ByteArray) (l3 : List Int) (g : S34 → ByteArray) (hlen : x.f3.length ≤ 1048576) (hnm : x.f0 = 6 → x.f4.length = x.f3.length ∧ ∀ j, j < x.f4.length → (nameAt x.f4 j).size ≤ 12)
  (hln : line.size ≤ 50) (hbl : blank.size ≤ 1) (hla : last.size ≤ 50) (hbr : br.size = 2)
  (ih : ∀ y, y ∈ x.f3 → Evn (fun k => lay k y w inner l3) (g y)) (hg : ∀ y, y ∈ x.f3 → (g y).size ≤ 100000000000)
  (hT : (fl e0 true (pcs g (decide (x.f0 = 6)) line blank x.f3 x.f4 x.f3.length 0)).size ≤ 100000000000) :
  ∀ (d i : Nat) (out : List ByteArray), i + d = x.f3.length → out.length = i → out ++ pcs g (decide (x.f0 = 6)) line blank x.f3 x.f4 d i = pcs g (decide (x.f0 = 6)) line blank x.f3 x.f4 x.f3.length 0 →
  Evn (fun k => impl_layout.l0 k w inner line blank last br out x.f3 (x.f3.length : Int) (i : Int) l3 x.f0 x.f1.f0 x.f1.f1 x.f2 x.f3 x.f4) (((br.extract 0 1 ++ fl e0 true (pcs g (decide (x.f0 = 6)) line blank x.f3 x.f4 x.f3.length 0)) ++ last) ++ br.extract 1 br.size)
 | 0, i, out, hd, ho, hall => by
  have hall' : out = pcs g (decide (x.f0 = 6)) line blank x.f3 x.f4 x.f3.length 0 := by rw [← hall]; show out = out ++ []; rw [List.append_nil]
  rw [← hall'] at hT ⊢
  refine Evn.step (g' := fun _ => some (((br.extract 0 1 ++ fl e0 true out) ++ last) ++ br.extract 1 br.size)) (fun k => ?_) (Evn.pure _)
  have x1 : (br.extract 0 1).size ≤ 2 := by rw [ByteArray.size_extract]; omega
  have x2 : (br.extract 1 br.size).size ≤ 2 := by rw [ByteArray.size_extract]; omega
  rw [impl_layout.l0, if_neg (by omega), if_pos (by decide), if_pos (by omega), show (⟨#[44]⟩ : ByteArray) = comma from rfl, join_eq out (by omega) hT, Option.bind_some, if_pos (by omega), if_pos (by rw [ByteArray.size_append]; omega), if_pos (by rw [ByteArray.size_append, ByteArray.size_append]; omega)]
 | d + 1, i, out, hd, ho, hall => by
  have hi : i < x.f3.length := by omega
  obtain ⟨ei, hm⟩ := item_mem x.f3 i hi
  have hgi := hg _ hm
  have hall2 : (out ++ [piece g (decide (x.f0 = 6)) line blank x.f3 x.f4 i]) ++ pcs g (decide (x.f0 = 6)) line blank x.f3 x.f4 d (i + 1) = pcs g (decide (x.f0 = 6)) line blank x.f3 x.f4 x.f3.length 0 := by
   rw [← hall, List.append_assoc]; rfl
  have IH := lay_l0 x w inner line blank last br l3 g hlen hnm hln hbl hla hbr ih hg hT d (i + 1) (out ++ [piece g (decide (x.f0 = 6)) line blank x.f3 x.f4 i]) (by omega) (by simp [ho]) hall2
  have hout : out.length < 8796093022208 := by omega
  by_cases c : x.f0 = 6
  ·obtain ⟨q1, q2⟩ := hnm c
   have hq := q2 i (by omega)
   have hqs := Jt.quoted_size (nameAt x.f4 i)
   have key1 : ∀ k, impl_layout.l0 (k + 1) w inner line blank last br out x.f3 (x.f3.length : Int) (i : Int) l3 x.f0 x.f1.f0 x.f1.f1 x.f2 x.f3 x.f4 = (impl_jsonText.f k (nameAt x.f4 i)).bind fun t => if t.size + 1 ≤ 9223372036854775807 then (if (t ++ colon).size + blank.size ≤ 9223372036854775807 then (if line.size + ((t ++ colon) ++ blank).size ≤ 9223372036854775807 then ((lay k (itemAt x.f3 i) w inner l3).bind fun t292 => if (line ++ ((t ++ colon) ++ blank)).size + t292.size ≤ 9223372036854775807 then (if out.length < 8796093022208 then impl_layout.l0 k w inner line blank last br (out ++ [(line ++ ((t ++ colon) ++ blank)) ++ t292]) x.f3 (x.f3.length : Int) ((i + 1 : Nat) : Int) l3 x.f0 x.f1.f0 x.f1.f1 x.f2 x.f3 x.f4 else none) else none) else none) else none) else none := by
    intro k
    rw [impl_layout.l0, if_pos (by omega), if_pos (by omega), if_pos (by omega), if_pos c, if_pos (by omega), w1 i (by omega)]
    rfl
   have hc1 : colon.size = 1 := rfl
   refine Evn.step key1 (Evn.bind (Jt.impl_put (nameAt x.f4 i) (by omega)) (Evn.ite_pos (by omega) (Evn.ite_pos (by rw [ByteArray.size_append]; omega) (Evn.ite_pos (by rw [ByteArray.size_append, ByteArray.size_append]; omega) (Evn.bind (a := g x.f3[i]) (by rw [ei]; exact ih _ hm) (Evn.ite_pos (by rw [ByteArray.size_append, ByteArray.size_append, ByteArray.size_append]; omega) (Evn.ite_pos hout ?_)))))))
   have e : (line ++ ((Jt.quoted (nameAt x.f4 i) ++ colon) ++ blank)) ++ g x.f3[i] = piece g (decide (x.f0 = 6)) line blank x.f3 x.f4 i := by
    unfold piece
    rw [if_pos (decide_eq_true c), ei]
   rw [e]
   exact IH
  ·have key1 : ∀ k, impl_layout.l0 (k + 1) w inner line blank last br out x.f3 (x.f3.length : Int) (i : Int) l3 x.f0 x.f1.f0 x.f1.f1 x.f2 x.f3 x.f4 = (lay k (itemAt x.f3 i) w inner l3).bind fun t292 => if line.size + t292.size ≤ 9223372036854775807 then (if out.length < 8796093022208 then impl_layout.l0 k w inner line blank last br (out ++ [line ++ t292]) x.f3 (x.f3.length : Int) ((i + 1 : Nat) : Int) l3 x.f0 x.f1.f0 x.f1.f1 x.f2 x.f3 x.f4 else none) else none := by
    intro k
    rw [impl_layout.l0, if_pos (by omega), if_pos (by omega), if_pos (by omega), if_neg c, w1 i (by omega)]
   refine Evn.step key1 (Evn.bind (a := g x.f3[i]) (by rw [ei]; exact ih _ hm) (Evn.ite_pos (by omega) (Evn.ite_pos hout ?_)))
   have e : line ++ g x.f3[i] = piece g (decide (x.f0 = 6)) line blank x.f3 x.f4 i := by
    unfold piece
    rw [if_neg (by simpa using c), ei]
   rw [e]
   exact IH
theorem br_open (k : Int) (br : ByteArray) (hb : br = if k = 6 then (⟨#[123, 125]⟩ : ByteArray) else ⟨#[91, 93]⟩) : br.extract 0 1 = op k ∧ br.extract 1 br.size = cl k ∧ br.size = 2 := by
 subst hb
 unfold op cl
 by_cases c : k = 6
 ·simp only [if_pos c]; exact ⟨by decide, by decide, by decide⟩
 ·simp only [if_neg c]; exact ⟨by decide, by decide, by decide⟩
theorem lay_ev (w : Bool) (l3 : List Int) : ∀ (n : Nat) (x : S34) (outer : ByteArray), Lo n x → Vo.A n x = true → outer.size + 2 * Vo.dp n x ≤ 40 → cI n x ≤ 1048577 → Evn (fun k => lay k x w outer l3) (P w n x outer)
 | 0, _, _, h, _, _, _ => h.elim
 | n + 1, x, outer, hLo, hA, hd, hc => by
  have hsz := P_size w (n + 1) x outer hLo hA hd
  obtain ⟨hl, hk, hn, hs⟩ := hLo
  have hA' : (Vo.oneB x && x.f3.all (Vo.A n)) = true := hA
  rw [Bool.and_eq_true, List.all_eq_true] at hA'
  obtain ⟨q3, q4, q6⟩ := one_facts x hA'.1
  have hdp : ∀ y, y ∈ x.f3 → Vo.dp n y + 1 ≤ Vo.dp (n + 1) x := fun y hy => by
   have := ((Vo.mx_le (Vo.dp n) x.f3 0 _).1 (Nat.le_refl _)).2 y hy
   show _ ≤ Vo.mx (Vo.dp n) x.f3 0 + 1
   omega
  have hd1 : 1 ≤ Vo.dp (n + 1) x := by show 1 ≤ Vo.mx (Vo.dp n) x.f3 0 + 1; omega
  have hcc : ∀ y, y ∈ x.f3 → cI n y ≤ 1048577 := fun y hy => by
   have h1 := sumC_mem (cI n) x.f3 y hy
   have h2 : cI (n + 1) x = 1 + sumC (cI n) x.f3 := rfl
   omega
  have key : ∀ k, lay (k + 1) x w outer l3 = if x.f0 = 0 then some (⟨#[110, 117, 108, 108]⟩ : ByteArray) else if x.f0 = 1 then some (⟨#[116, 114, 117, 101]⟩ : ByteArray) else if x.f0 = 2 then some (⟨#[102, 97, 108, 115, 101]⟩ : ByteArray) else if x.f0 = 3 then ((impl_DecText.f k x.f1.f0 x.f1.f1 l3).bind fun t => some t) else if x.f0 = 4 then ((impl_jsonText.f k x.f2).bind fun t => some t) else impl_layout.j0 k w outer e0 e0 e0 e0 (decide (w = true ∧ 0 < x.f3.length)) l3 x.f0 x.f1.f0 x.f1.f1 x.f2 x.f3 x.f4 := by
   intro k
   show impl_layout.f (k + 1) _ _ _ _ _ _ _ _ _ = _
   rw [impl_layout.f]
   have hj : (if w = true then impl_layout.j0 k w outer e0 e0 e0 e0 (decide ((x.f3.length : Int) > 0)) l3 x.f0 x.f1.f0 x.f1.f1 x.f2 x.f3 x.f4 else impl_layout.j0 k w outer e0 e0 e0 e0 false l3 x.f0 x.f1.f0 x.f1.f1 x.f2 x.f3 x.f4) = impl_layout.j0 k w outer e0 e0 e0 e0 (decide (w = true ∧ 0 < x.f3.length)) l3 x.f0 x.f1.f0 x.f1.f1 x.f2 x.f3 x.f4 := by
    by_cases c : w = true
    ·rw [if_pos c]; congr 1; apply decide_eq_decide.2; constructor
     ·intro h; exact ⟨c, by omega⟩
     ·intro h; have := h.2; omega
    ·rw [if_neg c, decide_eq_false (fun h => c h.1)]
   rw [← hj]; rfl
  refine Evn.step key ?_
  rw [P] at hsz ⊢
  by_cases h0 : x.f0 = 0
  ·rw [if_pos h0]; exact Evn.ite_pos h0 (Evn.pure _)
  rw [if_neg h0] at hsz ⊢
  refine Evn.ite_neg h0 ?_
  by_cases h1 : x.f0 = 1
  ·rw [if_pos h1]; exact Evn.ite_pos h1 (Evn.pure _)
  rw [if_neg h1] at hsz ⊢
  refine Evn.ite_neg h1 ?_
  by_cases h2 : x.f0 = 2
  ·rw [if_pos h2]; exact Evn.ite_pos h2 (Evn.pure _)
  rw [if_neg h2] at hsz ⊢
  refine Evn.ite_neg h2 ?_
  by_cases h3 : x.f0 = 3
  ·rw [if_pos h3]; exact Evn.ite_pos h3 (Evn.bind (Tx.impl_text _ _ (q3 h3) l3) (Evn.pure _))
  rw [if_neg h3] at hsz ⊢
  refine Evn.ite_neg h3 ?_
  by_cases h4 : x.f0 = 4
  ·rw [if_pos h4]; exact Evn.ite_pos h4 (Evn.bind (Jt.impl_put _ (by have := q4 h4; omega)) (Evn.pure _))
  rw [if_neg h4] at hsz ⊢
  refine Evn.ite_neg h4 ?_
  obtain ⟨br, hbr⟩ : ∃ br, br = if x.f0 = 6 then (⟨#[123, 125]⟩ : ByteArray) else ⟨#[91, 93]⟩ := ⟨_, rfl⟩
  obtain ⟨b1, b2, b3⟩ := br_open x.f0 br hbr
  have tail : ∀ (inner line blank last : ByteArray) (r : ByteArray), Evn (fun k => impl_layout.l0 k w inner line blank last br [] x.f3 (x.f3.length : Int) ((0 : Nat) : Int) l3 x.f0 x.f1.f0 x.f1.f1 x.f2 x.f3 x.f4) r → Evn (fun k => impl_layout.j1 k w inner line blank last l3 x.f0 x.f1.f0 x.f1.f1 x.f2 x.f3 x.f4) r := by
   intro inner line blank last r h
   refine Evn.step (g' := fun k => impl_layout.j2 k w inner line blank last br l3 x.f0 x.f1.f0 x.f1.f1 x.f2 x.f3 x.f4) (fun k => ?_) (Evn.step (fun k => by rw [impl_layout.j2]; rfl) h)
   rw [impl_layout.j1, hbr]
   split <;> rfl
  by_cases hw : w = true ∧ 0 < x.f3.length
  ·rw [if_pos hw] at hsz ⊢
   have hs2 : (outer ++ sp2).size = outer.size + 2 := by rw [ByteArray.size_append]; rfl
   have hnl : nl.size = 1 := rfl
   have hg2 : ∀ y, y ∈ x.f3 → (P w n y (outer ++ sp2)).size ≤ 100000000000 := fun y hy => by
    have h1 := hcc y hy
    have h2 := P_size w n y (outer ++ sp2) (hk y hy) (hA'.2 y hy) (by have := hdp y hy; omega)
    omega
   refine Evn.step (g' := fun k => impl_layout.j1 k w (outer ++ sp2) (nl ++ (outer ++ sp2)) (⟨#[32]⟩ : ByteArray) (nl ++ outer) l3 x.f0 x.f1.f0 x.f1.f1 x.f2 x.f3 x.f4) (fun k => ?_) (tail _ _ _ _ _ ?_)
   ·rw [impl_layout.j0, decide_eq_true hw, if_pos rfl, if_pos (by omega), if_pos (by rw [show (⟨#[32, 32]⟩ : ByteArray) = sp2 from rfl]; omega), if_pos (by omega)]; rfl
   ·have h := lay_l0 x w (outer ++ sp2) (nl ++ (outer ++ sp2)) (⟨#[32]⟩ : ByteArray) (nl ++ outer) br l3 (fun y => P w n y (outer ++ sp2)) hl q6 (by rw [ByteArray.size_append]; omega) (by decide) (by rw [ByteArray.size_append]; omega) b3 (fun y hy => lay_ev w l3 n y (outer ++ sp2) (hk y hy) (hA'.2 y hy) (by have := hdp y hy; omega) (hcc y hy)) hg2 (by
     simp only [ByteArray.size_append] at hsz; omega) x.f3.length 0 [] (by omega) rfl rfl
    rw [b1, b2] at h
    exact h
  ·rw [if_neg hw] at hsz ⊢
   have hg2 : ∀ y, y ∈ x.f3 → (P w n y e0).size ≤ 100000000000 := fun y hy => by
    have h1 := hcc y hy
    have h2 := P_size w n y e0 (hk y hy) (hA'.2 y hy) (by have := hdp y hy; rw [show e0.size = 0 from rfl]; omega)
    omega
   refine Evn.step (g' := fun k => impl_layout.j1 k w e0 e0 e0 e0 l3 x.f0 x.f1.f0 x.f1.f1 x.f2 x.f3 x.f4) (fun k => ?_) (tail _ _ _ _ _ ?_)
   ·rw [impl_layout.j0, decide_eq_false hw, if_neg (by decide)]
   ·have h := lay_l0 x w e0 e0 e0 e0 br l3 (fun y => P w n y e0) hl q6 (by decide) (by decide) (by decide) b3 (fun y hy => lay_ev w l3 n y e0 (hk y hy) (hA'.2 y hy) (by have := hdp y hy; rw [show e0.size = 0 from rfl]; omega) (hcc y hy)) hg2 (by
     simp only [ByteArray.size_append] at hsz; omega) x.f3.length 0 [] (by omega) rfl rfl
    rw [b1, b2] at h
    exact h
end Go.Proofs.YthaceblepbkjjaaDoor.Pt
