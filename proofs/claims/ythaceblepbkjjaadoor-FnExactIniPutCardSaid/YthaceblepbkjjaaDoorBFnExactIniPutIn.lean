import Derived.Test.YthaceblepbkjjaaDoorBFnExactIniPutTm
import Derived.Test.YthaceblepbkjjaaDoorBFnExactIniPutq4
namespace Go.Proofs.YthaceblepbkjjaaDoor.In
set_option linter.unusedVariables false
set_option linter.unusedSimpArgs false
open Go.RowKit Go.Proofs.YthaceblepbkjjaaDoor.Q Go.Proofs.YthaceblepbkjjaaDoor.Evs Go.Proofs.YthaceblepbkjjaaDoor.Th Go.Proofs.YthaceblepbkjjaaDoor.Tv Go.Proofs.YthaceblepbkjjaaDoor.Pt Go.Proofs.YthaceblepbkjjaaDoor.Tm Go.Proofs.YthaceblepbkjjaaDoorW.PrintWords Go.Proofs.YthaceblepbkjjaaDoorW.PrintLast
def pl (u : S34) : Bool := decide (1 ≤ u.f0 ∧ u.f0 ≤ 4)
def sl (u : S34) : Bool := decide (¬ (u.f0 = 0 ∨ u.f0 = 5 ∨ u.f0 = 6))
def rowB (f : S34 → Bool) (y : S34) : Bool := decide (y.f0 = 6) && y.f3.all f
def iniB (f : S34 → Bool) (z : S34) : Bool := decide (z.f0 = 6) && z.f3.all (rowB f)
/-! ### the reference's -/
theorem s_l1 (a b c : Int) (s : ByteArray) (ns : List ByteArray) (xs : List S34) (i : Nat) (hi : i < xs.length) (hl : xs[i].f3.length ≤ 1048576) (r : Bool)
  (hr : Evn (fun k => spec_l12Plain.l0 k (wrap64 ((i : Int) + 1)) a b c s xs ns) r) :
  ∀ (d j : Nat), j + d = xs[i].f3.length → Evn (fun k => spec_l12Plain.l1 k (i : Int) (j : Int) a b c s xs ns) ((xs[i].f3.drop j).all sl && r)
 | 0, j, hd => by
  rw [List.drop_eq_nil_of_le (by omega)]
  refine Evn.step (fun k => ?_) hr
  have e : rd_T34 xs (i : Int) = xs[i] := by simp only [rd_T34, getD_nat _ _ _ hi]
  rw [spec_l12Plain.l1, if_pos (by omega), if_pos (by omega), e, if_neg (by omega)]
 | d + 1, j, hd => by
  have hj : j < xs[i].f3.length := by omega
  have ih := s_l1 a b c s ns xs i hi hl r hr d (j + 1) (by omega)
  have e : rd_T34 xs (i : Int) = xs[i] := by simp only [rd_T34, getD_nat _ _ _ hi]
  have e2 : rd_T34 xs[i].f3 (j : Int) = xs[i].f3[j] := by simp only [rd_T34, getD_nat _ _ _ hj]
  have key : ∀ k, spec_l12Plain.l1 (k + 1) (i : Int) (j : Int) a b c s xs ns = if sl xs[i].f3[j] = true then spec_l12Plain.l1 k (i : Int) ((j + 1 : Nat) : Int) a b c s xs ns else some false := by
   intro k
   rw [spec_l12Plain.l1, if_pos (by omega), if_pos (by omega), e, if_pos (by omega), if_pos (by omega), e2, w1 j (by omega)]
   unfold sl
   by_cases c0 : xs[i].f3[j].f0 = 0
   ·rw [if_pos c0, if_neg (by simp [c0])]
   by_cases c5 : xs[i].f3[j].f0 = 5
   ·rw [if_neg c0, if_pos c5, if_neg (by simp [c5])]
   by_cases c6 : xs[i].f3[j].f0 = 6
   ·rw [if_neg c0, if_neg c5, if_pos c6, if_neg (by simp [c6])]
   ·rw [if_neg c0, if_neg c5, if_neg c6, if_pos (by simp [c0, c5, c6])]
  rw [Vo.drop_get xs[i].f3 j hj, List.all_cons]
  refine Evn.step key ?_
  by_cases c1 : sl xs[i].f3[j] = true
  ·rw [c1, Bool.true_and]; exact Evn.ite_pos rfl ih
  ·rw [Bool.eq_false_iff.2 c1, Bool.false_and, Bool.false_and]; exact Evn.ite_neg (by decide) (Evn.pure _)
theorem s_l0 (a b c : Int) (s : ByteArray) (ns : List ByteArray) (xs : List S34) (hlen : xs.length ≤ 1048576) (hk : ∀ y, y ∈ xs → y.f3.length ≤ 1048576) :
  ∀ (d i : Nat), i + d = xs.length → Evn (fun k => spec_l12Plain.l0 k (i : Int) a b c s xs ns) ((xs.drop i).all (rowB sl))
 | 0, i, hd => by
  rw [List.drop_eq_nil_of_le (by omega)]
  exact Evn.step (g' := fun _ => some true) (fun k => by rw [spec_l12Plain.l0, if_neg (by omega)]) (Evn.pure _)
 | d + 1, i, hd => by
  have hi : i < xs.length := by omega
  have ih := s_l0 a b c s ns xs hlen hk d (i + 1) (by omega)
  rw [← w1 i (by omega)] at ih
  have h1 := s_l1 a b c s ns xs i hi (hk _ (List.getElem_mem hi)) _ ih xs[i].f3.length 0 (by omega)
  rw [List.drop_zero] at h1
  have e : rd_T34 xs (i : Int) = xs[i] := by simp only [rd_T34, getD_nat _ _ _ hi]
  rw [Vo.drop_get xs i hi, List.all_cons]
  refine Evn.step (fun k => by rw [spec_l12Plain.l0, if_pos (by omega), if_pos (by omega), e]) ?_
  show Evn _ ((decide (xs[i].f0 = 6) && xs[i].f3.all sl) && (xs.drop (i + 1)).all (rowB sl))
  by_cases c6 : xs[i].f0 = 6
  ·rw [decide_eq_true c6, Bool.true_and]; exact Evn.ite_pos c6 h1
  ·rw [decide_eq_false c6, Bool.false_and, Bool.false_and]; exact Evn.ite_neg c6 (Evn.pure _)
theorem plain_ev (n : Nat) (z : S34) (h : Lo (n + 1) z) (h2 : ∀ y, y ∈ z.f3 → y.f3.length ≤ 1048576) : Evn (fun k => spec_l12Plain.f k z.f0 z.f1.f0 z.f1.f1 z.f2 z.f3 z.f4) (iniB sl z) := by
 have hh := s_l0 z.f0 z.f1.f0 z.f1.f1 z.f2 z.f4 z.f3 h.1 h2 z.f3.length 0 (by omega)
 rw [List.drop_zero] at hh
 unfold spec_l12Plain.f iniB
 by_cases c6 : z.f0 = 6
 ·rw [decide_eq_true c6, Bool.true_and]; exact Evn.ite_pos c6 hh
 ·rw [decide_eq_false c6, Bool.false_and]; exact Evn.ite_neg c6 (Evn.pure _)
/-! ### the program's -/
theorem i1 (u : S34) (m : Int) : impl_isIni_2_1.f u.f0 u.f1.f0 u.f1.f1 u.f2 u.f3 u.f4 [m] = some (!(pl u)) := by
 unfold impl_isIni_2_1.f impl_isIni_1.f pl
 rw [if_pos (show (0 : Int) < ((([m] : List Int).length : Nat) : Int) by simp)]
 by_cases c1 : u.f0 ≥ 1
 ·rw [if_pos c1]
  by_cases c4 : u.f0 ≤ 4
  ·simp [c1, c4]
  ·simp [c1, c4]
 ·rw [if_neg c1]; simp; omega
theorem i2 (y : S34) (m : Int) (hl : y.f3.length ≤ 1048576) : Evn (fun k => impl_isIni_2.f k y.f0 y.f1.f0 y.f1.f1 y.f2 y.f3 y.f4 [m]) (!(rowB pl y)) := by
 obtain ⟨r, hr, er⟩ := any_l (fun k xs n i => impl_Value_36_at_isIni_2_1.l0 k xs n i [m]) (fun _ u => impl_isIni_2_1.f u.f0 u.f1.f0 u.f1.f1 u.f2 u.f3 u.f4 [m]) pl y.f3 hl (fun k i => by show impl_Value_36_at_isIni_2_1.l0 (k + 1) _ _ _ _ = _; rw [impl_Value_36_at_isIni_2_1.l0]) (fun u _ => Evn.of (fun _ => i1 u m) (Evn.pure _)) y.f3.length 0 (by omega)
 rw [List.drop_zero] at er
 have er2 : decide (r ≥ 0) = !(y.f3.all pl) := by rw [← er, Bool.not_not]
 unfold impl_isIni_2.f rowB
 by_cases c6 : y.f0 = 6
 ·rw [decide_eq_true c6, Bool.true_and, ← er2]
  refine Evn.ite_pos c6 (Evn.bind (a := decide (r ≥ 0)) ?_ (Evn.pure _))
  unfold impl_Value_27_at_isIni_2_1.f impl_Value_36_at_isIni_2_1.f
  exact Evn.bind hr (Evn.pure _)
 ·rw [decide_eq_false c6, Bool.false_and]; exact Evn.ite_neg c6 (Evn.pure _)
theorem ini_ev (n : Nat) (z : S34) (h : Lo (n + 1) z) (h2 : ∀ y, y ∈ z.f3 → y.f3.length ≤ 1048576) : Evn (fun k => impl_isIni.f k z.f0 z.f1.f0 z.f1.f1 z.f2 z.f3 z.f4) (iniB pl z) := by
 obtain ⟨r, hr, er⟩ := any_l (fun k xs n i => impl_Value_36_at_isIni_2.l0 k xs n i [0]) (fun k y => impl_isIni_2.f k y.f0 y.f1.f0 y.f1.f1 y.f2 y.f3 y.f4 [0]) (rowB pl) z.f3 h.1 (fun k i => by show impl_Value_36_at_isIni_2.l0 (k + 1) _ _ _ _ = _; rw [impl_Value_36_at_isIni_2.l0]) (fun y hy => i2 y 0 (h2 y hy)) z.f3.length 0 (by omega)
 rw [List.drop_zero] at er
 unfold impl_isIni.f iniB
 by_cases c6 : z.f0 = 6
 ·rw [decide_eq_true c6, Bool.true_and, ← er]
  refine Evn.ite_pos c6 (Evn.bind (a := decide (r ≥ 0)) ?_ (Evn.pure _))
  unfold impl_Value_27_at_isIni_2.f impl_Value_36_at_isIni_2.f
  exact Evn.bind hr (Evn.pure _)
 ·rw [decide_eq_false c6, Bool.false_and]; exact Evn.ite_neg c6 (Evn.pure _)
/-! ### of values that are ok the two are the same, and what is so fits -/
theorem kinds (x : S34) (h : Vo.oneB x = true) : 0 ≤ x.f0 ∧ x.f0 ≤ 6 ∧ (x.f0 < 5 → x.f3.length = 0) := by
 unfold Vo.oneB at h
 rw [Bool.and_eq_true] at h
 have h1 := of_decide_eq_true h.1
 have hp := h.2
 unfold Vo.postB at hp
 refine ⟨?_, ?_, h1.2.2.1⟩
 ·apply Classical.byContradiction; intro hn
  rw [if_neg (by omega), if_neg (by omega), if_neg (by omega), if_neg (by omega)] at hp
  cases hp
 ·apply Classical.byContradiction; intro hn
  rw [if_neg (by omega), if_neg (by omega), if_neg (by omega), if_neg (by omega)] at hp
  cases hp
theorem A_one : ∀ (n : Nat) (x : S34), Lo n x → Vo.A n x = true → Vo.oneB x = true
 | 0, _, h, _ => h.elim
 | n + 1, x, _, h => (facts n x h).1
theorem same (n : Nat) (z : S34) (h : Lo (n + 1) z) (hA : Vo.A (n + 1) z = true) : iniB sl z = iniB pl z := by
 unfold iniB
 congr 1
 rw [Bool.eq_iff_iff, List.all_eq_true, List.all_eq_true]
 have e : ∀ y, y ∈ z.f3 → rowB sl y = rowB pl y := fun y hy => by
  unfold rowB
  congr 1
  rw [Bool.eq_iff_iff, List.all_eq_true, List.all_eq_true]
  have e2 : ∀ u, u ∈ y.f3 → sl u = pl u := fun u hu => by
   have hy1 := (facts n z hA).2 y hy
   have hyL := h.2.1 y hy
   cases n with
   | zero => exact hyL.elim
   | succ n =>
    have hu1 := (facts n y hy1).2 u hu
    have hk := kinds u (A_one n u (hyL.2.1 u hu) hu1)
    unfold sl pl
    apply decide_eq_decide.2
    omega
  constructor
  ·intro q u hu; rw [← e2 u hu]; exact q u hu
  ·intro q u hu; rw [e2 u hu]; exact q u hu
 constructor
 ·intro q y hy; rw [← e y hy]; exact q y hy
 ·intro q y hy; rw [e y hy]; exact q y hy
theorem leafF (n : Nat) (u : S34) (h : Lo n u) (hA : Vo.A n u = true) (hp : pl u = true) : F n u = true := by
 cases n with
 | zero => exact h.elim
 | succ n =>
  have hk := kinds u (facts n u hA).1
  have hp' := of_decide_eq_true hp
  show (!decide (u.f0 = 0 ∨ u.f0 = 6) && u.f3.all (F n)) = true
  rw [decide_eq_false (by omega), List.eq_nil_of_length_eq_zero (hk.2.2 (by omega))]
  rfl
theorem fit (n : Nat) (z : S34) (h : Lo (n + 1) z) (hA : Vo.A (n + 1) z = true) (hi : iniB pl z = true) : G (n + 1) z = true := by
 unfold iniB at hi
 rw [Bool.and_eq_true, List.all_eq_true] at hi
 show (decide (z.f0 = 6) && z.f3.all fun y => F n y || G n y) = true
 rw [hi.1, Bool.true_and, List.all_eq_true]
 intro y hy
 have hr := hi.2 y hy
 unfold rowB at hr
 rw [Bool.and_eq_true, List.all_eq_true] at hr
 have hy1 := (facts n z hA).2 y hy
 have hyL := h.2.1 y hy
 cases n with
 | zero => exact hyL.elim
 | succ n =>
  rw [Bool.or_eq_true]
  refine .inr ?_
  show (decide (y.f0 = 6) && y.f3.all fun u => F n u || G n u) = true
  rw [hr.1, Bool.true_and, List.all_eq_true]
  intro u hu
  rw [leafF n u (hyL.2.1 u hu) ((facts n y hy1).2 u hu) (hr.2 u hu), Bool.true_or]
theorem Lo_len : ∀ (n : Nat) (y : S34), Lo n y → y.f3.length ≤ 1048576
 | 0, _, h => h.elim
 | _ + 1, _, h => h.1
theorem ini_both (m : Nat) (hm : m ≤ 2000000) (z : S34) (hL : Lo m z) (hc : cI m z ≤ 1048577) (l : List Int) : ∃ r, Evn (fun k => spec_IniPut.f k z.f0 z.f1.f0 z.f1.f1 z.f2 z.f3 z.f4) r ∧ Evn (fun k => impl_IniPut.f k z.f0 z.f1.f0 z.f1.f1 z.f2 z.f3 z.f4 [Nm.words] l) r := by
 obtain ⟨b, hb, hb', hB⟩ := Vo.ok_ev m hm z hL
 obtain ⟨n, rfl⟩ : ∃ n, m = n + 1 := by cases m with
  | zero => exact hL.elim
  | succ n => exact ⟨n, rfl⟩
 have hlen : ∀ y, y ∈ z.f3 → y.f3.length ≤ 1048576 := fun y hy => Lo_len n y (hL.2.1 y hy)
 have p1 := plain_ev n z hL hlen
 have p2 := ini_ev n z hL hlen
 by_cases c : b = true
 ·obtain ⟨hd, hA⟩ := hB c
  subst c
  rw [same n z hL hA] at p1
  by_cases ci : iniB pl z = true
  ·have f2 := ifits_ev (n + 1) z hL
   rw [fit n z hL hA ci] at f2
   rw [ci] at p1 p2
   have h6 : z.f0 = 6 := by unfold iniB at ci; rw [Bool.and_eq_true] at ci; exact of_decide_eq_true ci.1
   obtain ⟨t1, t2⟩ := toml_ev l (n + 1) z e0 hL hA h6 hd (by rw [show e0.size = 0 from rfl]; omega) hc
   refine ⟨(T (n + 1) z e0, true), ?_, ?_⟩
   ·unfold spec_IniPut.f
    exact Evn.bind hb (Evn.ite_pos rfl (Evn.bind p1 (Evn.ite_pos rfl (Evn.bind t1 (Evn.pure _)))))
   ·unfold impl_IniPut.f impl_TomlPut.f
    exact Evn.bind p2 (Evn.ite_pos rfl (Evn.bind (Evn.bind hb' (Evn.ite_pos rfl (Evn.bind f2 (Evn.ite_pos rfl (Evn.bind t2 (Evn.pure _)))))) (Evn.pure _)))
  ·refine ⟨(e0, false), ?_, ?_⟩
   ·unfold spec_IniPut.f
    exact Evn.bind hb (Evn.ite_pos rfl (Evn.bind p1 (Evn.ite_neg ci (Evn.pure _))))
   ·unfold impl_IniPut.f
    exact Evn.bind p2 (Evn.ite_neg ci (Evn.pure _))
 ·refine ⟨(e0, false), ?_, ?_⟩
  ·unfold spec_IniPut.f
   exact Evn.bind hb (Evn.ite_neg c (Evn.pure _))
  ·unfold impl_IniPut.f impl_TomlPut.f
   refine Evn.bind p2 ?_
   by_cases ci : iniB pl z = true
   ·exact Evn.ite_pos ci (Evn.bind (Evn.bind hb' (Evn.ite_neg c (Evn.pure _))) (Evn.pure _))
   ·exact Evn.ite_neg ci (Evn.pure _)
theorem law (n : Nat) (x : S27) (hf : Fine n x) (l : List Int) : Evn (fun k => laws_FnExactIniPut.f k x.f0 x.f1.f0 x.f1.f1 x.f2 x.f3 x.f4 [Nm.words] l) true := by
 unfold laws_FnExactIniPut.f
 obtain ⟨r, hr, hrl, hrL⟩ := Tv.sz_ev n x hf 1048576 (by omega) (by omega)
 refine Evn.bind hr ?_
 by_cases c : r < 0
 ·exact Evn.ite_pos c (Evn.pure _)
 refine Evn.ite_neg c ?_
 obtain ⟨⟨m, hm, hL⟩, hC⟩ := hrL (by omega)
 obtain ⟨z, hz, hLo, hcz⟩ := Tv.to_ev m x hL
 have hcc := hC m
 have hcm := hcz m
 obtain ⟨t, ht, ht'⟩ := ini_both m (by omega) z hLo (by omega) l
 refine Evn.bind hz (Evn.bind ht (Evn.bind hz (Evn.bind ht' (Evn.ite_pos rfl ?_))))
 have e : (t.2 != t.2) = false := by simp
 rw [e]
 refine Evn.step (fun k => by rw [laws_FnExactIniPut.j0, if_neg (by decide)]) ?_
 exact Evn.bind hz (Evn.bind (Tv.eq_ev m z hLo) (Evn.ite_pos rfl (Evn.pure _)))
end Go.Proofs.YthaceblepbkjjaaDoor.In
