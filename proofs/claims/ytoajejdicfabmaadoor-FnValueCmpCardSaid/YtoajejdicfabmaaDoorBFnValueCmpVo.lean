import Derived.Test.YtoajejdicfabmaaDoorBFnValueCmpNm
import Derived.Test.YtoajejdicfabmaaDoorBFnValueCmpTv
namespace Go.Proofs.YtoajejdicfabmaaDoor.Vo
set_option linter.unusedVariables false
set_option linter.unusedSimpArgs false
open Go.RowKit Go.Proofs.YtoajejdicfabmaaDoor.Q Go.Proofs.YtoajejdicfabmaaDoor.Evs Go.Proofs.YtoajejdicfabmaaDoor.Th Go.Proofs.YtoajejdicfabmaaDoor.Tv Go.Proofs.YtoajejdicfabmaaDoorW.PrintWords Go.Proofs.YtoajejdicfabmaaDoorW.PrintLast
theorem dec_no {p : Prop} [Decidable p] (h : ¬ p) : some false = some (decide p) := by rw [decide_eq_false h]
theorem dec_yes {p : Prop} [Decidable p] (h : p) : some true = some (decide p) := by rw [decide_eq_true h]
theorem in_range (a b c : Int) : spec_l1In.f a b c = some (decide (b ≤ a ∧ a ≤ c)) := by
 unfold spec_l1In.f
 by_cases h1 : b ≤ a <;> by_cases h2 : a ≤ c <;> simp [h1, h2]
theorem spec_ok (m e : Int) : spec_DecOk.f m e = some (decide (Ok m e)) := by
 have h := tmod10 m
 unfold spec_DecOk.f
 by_cases h0 : m = 0
 ·rw [if_pos h0]; subst h0
  by_cases he : e = 0
  ·subst he; rfl
  ·rw [beq_false_of_ne he]; exact dec_no (by unfold Ok; omega)
 ·rw [if_neg h0, in_range, Option.bind_some]
  by_cases h1 : -99999999 ≤ m ∧ m ≤ 99999999
  ·rw [if_pos (decide_eq_true h1), in_range, Option.bind_some]
   by_cases h2 : -8 ≤ e ∧ e ≤ 8
   ·rw [if_pos (decide_eq_true h2)]
    by_cases h3 : m % 10 = 0
    ·rw [h.2 h3]; exact dec_no (by unfold Ok; omega)
    ·rw [bne_iff_ne.2 (fun z => h3 (h.1 z))]; exact dec_yes (by unfold Ok; omega)
   ·rw [if_neg (fun z => h2 (of_decide_eq_true z))]; exact dec_no (by unfold Ok; omega)
  ·rw [if_neg (fun z => h1 (of_decide_eq_true z))]; exact dec_no (by unfold Ok; omega)
theorem impl_ok (m e : Int) : impl_DecOk.f m e = some (decide (Ok m e)) := by
 have h := tmod10 m
 unfold impl_DecOk.f
 by_cases h1 : -99999999 ≤ m
 ·by_cases h2 : m ≤ 99999999
  ·by_cases h3 : -8 ≤ e
   ·by_cases h4 : e ≤ 8
    ·rw [if_pos h1, if_pos h2, if_pos h3, if_pos h4]
     by_cases h5 : m % 10 = 0
     ·rw [if_pos (h.2 h5)]
      by_cases h6 : m = 0
      ·subst h6
       by_cases he : e = 0
       ·subst he; rfl
       ·rw [beq_false_of_ne he]; exact dec_no (by unfold Ok; omega)
      ·rw [beq_false_of_ne h6]; exact dec_no (by unfold Ok; omega)
     ·rw [if_neg (fun z => h5 (h.1 z))]; exact dec_yes (by unfold Ok; omega)
    ·rw [if_pos h1, if_pos h2, if_pos h3, if_neg h4]; exact dec_no (by unfold Ok; omega)
   ·rw [if_pos h1, if_pos h2, if_neg h3]; exact dec_no (by unfold Ok; omega)
  ·rw [if_pos h1, if_neg h2]; exact dec_no (by unfold Ok; omega)
 ·rw [if_neg h1]; exact dec_no (by unfold Ok; omega)
def gt (xs : List ByteArray) (i : Nat) : Bool := if 0 < i then Op.bytesLess (rdOf ByteArray.empty xs ((i - 1 : Nat) : Int)).toList (rdOf ByteArray.empty xs (i : Int)).toList else true
def okB (xs : List ByteArray) (i : Nat) : Bool := Nm.nameB (rdOf ByteArray.empty xs (i : Int)) && gt xs i
def allB (xs : List ByteArray) : Nat → Nat → Bool
 | 0, _ => true
 | d + 1, i => okB xs i && allB xs d (i + 1)
theorem names_spec (xs : List ByteArray) (hlen : xs.length ≤ 1048576) (hs : ∀ x, x ∈ xs → x.size ≤ 9223372036854775807) :
  ∀ (d i : Nat), i + d = xs.length → Evn (fun k => spec_l7Names.l0 k xs (i : Int)) (allB xs d i)
 | 0, i, hd => Evn.step (g' := fun _ => some true) (fun k => by rw [spec_l7Names.l0, if_neg (by omega)]) (Evn.pure _)
 | d + 1, i, hd => by
  have ih := names_spec xs hlen hs d (i + 1) (by omega)
  have hi : i < xs.length := by omega
  have hn : Evn (fun k => spec_NameOk.f k (rdOf ByteArray.empty xs (i : Int))) (Nm.nameB (rdOf ByteArray.empty xs (i : Int))) := Nm.spec_ev _ (by
   simp only [rdOf, getD_nat _ _ _ hi]
   exact hs _ (List.getElem_mem hi))
  have key : ∀ k, spec_l7Names.l0 (k + 1) xs (i : Int) = (spec_NameOk.f k (rdOf ByteArray.empty xs (i : Int))).bind fun t => if t = true then (if gt xs i = true then spec_l7Names.l0 k xs ((i + 1 : Nat) : Int) else some false) else some false := by
   intro k
   rw [spec_l7Names.l0, if_pos (by omega), if_pos (by omega), w1 i (by omega)]
   unfold gt
   by_cases c : 0 < i
   ·rw [w64 ((i : Int) - 1) (by omega), show ((i : Int) - 1) = ((i - 1 : Nat) : Int) by omega]
    simp only [if_pos c, if_pos (show (i : Int) > 0 by omega), if_pos (show 0 ≤ ((i - 1 : Nat) : Int) by omega), if_pos (show ((i - 1 : Nat) : Int) < (xs.length : Int) by omega)]
   ·simp only [if_neg c, if_neg (show ¬ (i : Int) > 0 by omega), if_true]
  refine Evn.step key (Evn.bind hn ?_)
  show Evn _ (okB xs i && allB xs d (i + 1))
  unfold okB
  by_cases c1 : Nm.nameB (rdOf ByteArray.empty xs (i : Int)) = true
  ·rw [c1, Bool.true_and]
   refine Evn.ite_pos rfl ?_
   by_cases c3 : gt xs i = true
   ·rw [c3, Bool.true_and]; exact Evn.ite_pos rfl ih
   ·rw [Bool.eq_false_iff.2 c3, Bool.false_and]; exact Evn.ite_neg (by decide) (Evn.pure _)
  ·rw [Bool.eq_false_iff.2 c1, Bool.false_and, Bool.false_and]; exact Evn.ite_neg (by decide) (Evn.pure _)
theorem names_impl (a b c : Int) (s : ByteArray) (items : List S33) (D : Int) (xs : List ByteArray) (hlen : xs.length ≤ 1048576) (hs : ∀ x, x ∈ xs → x.size ≤ 9223372036854775807) (r : Bool)
  (hr : Evn (fun k => if (xs.length : Int) = (items.length : Int) then ((impl_Value_37_at_valueOk_1.f k items [Nm.words] [D]).bind fun t => some (!t)) else some false) r) :
  ∀ (d i : Nat), i + d = xs.length → Evn (fun k => impl_valueOk.l0 k xs (xs.length : Int) (i : Int) [Nm.words] a b c s items xs D) (allB xs d i && r)
 | 0, i, hd => by
  have : allB xs 0 i = true := rfl
  rw [this, Bool.true_and]
  refine Evn.step (fun k => ?_) hr
  rw [impl_valueOk.l0, if_neg (by omega)]
 | d + 1, i, hd => by
  have ih := names_impl a b c s items D xs hlen hs r hr d (i + 1) (by omega)
  have hi : i < xs.length := by omega
  have hn : Evn (fun k => impl_NameOk.f k (rdOf ByteArray.empty xs (i : Int)) [Nm.words]) (Nm.nameB (rdOf ByteArray.empty xs (i : Int))) := Nm.impl_ev _ (by
   simp only [rdOf, getD_nat _ _ _ hi]
   exact hs _ (List.getElem_mem hi))
  have key : ∀ k, impl_valueOk.l0 (k + 1) xs (xs.length : Int) (i : Int) [Nm.words] a b c s items xs D = (impl_NameOk.f k (rdOf ByteArray.empty xs (i : Int)) [Nm.words]).bind fun t => if t = true then (if gt xs i = true then impl_valueOk.l0 k xs (xs.length : Int) ((i + 1 : Nat) : Int) [Nm.words] a b c s items xs D else some false) else some false := by
   intro k
   rw [impl_valueOk.l0, if_pos (by omega), if_pos (by omega), if_pos (by omega), w1 i (by omega)]
   unfold gt
   by_cases c : 0 < i
   ·rw [w64 ((i : Int) - 1) (by omega), show ((i : Int) - 1) = ((i - 1 : Nat) : Int) by omega]
    simp only [if_pos c, if_pos (show (i : Int) > 0 by omega), if_pos (show 0 ≤ ((i - 1 : Nat) : Int) by omega), if_pos (show ((i - 1 : Nat) : Int) < (xs.length : Int) by omega)]
   ·simp only [if_neg c, if_neg (show ¬ (i : Int) > 0 by omega), if_true]
  refine Evn.step key (Evn.bind hn ?_)
  show Evn _ ((okB xs i && allB xs d (i + 1)) && r)
  unfold okB
  by_cases c1 : Nm.nameB (rdOf ByteArray.empty xs (i : Int)) = true
  ·rw [c1, Bool.true_and]
   refine Evn.ite_pos rfl ?_
   by_cases c3 : gt xs i = true
   ·rw [c3, Bool.true_and]; exact Evn.ite_pos rfl ih
   ·rw [Bool.eq_false_iff.2 c3, Bool.false_and, Bool.false_and]; exact Evn.ite_neg (by decide) (Evn.pure _)
  ·rw [Bool.eq_false_iff.2 c1, Bool.false_and, Bool.false_and, Bool.false_and]; exact Evn.ite_neg (by decide) (Evn.pure _)
def preB (x : S33) : Bool := decide ((x.f0 = 3 ∨ (x.f1.f0 = 0 ∧ x.f1.f1 = 0)) ∧ (x.f0 = 4 ∨ x.f2.size = 0) ∧ (x.f0 < 5 → x.f3.length = 0) ∧ (x.f0 = 6 ∨ x.f4.length = 0))
def postB (x : S33) : Bool := if x.f0 = 0 ∨ x.f0 = 1 ∨ x.f0 = 2 ∨ x.f0 = 5 then true else if x.f0 = 3 then decide (Ok x.f1.f0 x.f1.f1) else if x.f0 = 4 then decide ((x.f2.size : Int) ≤ 1500) else if x.f0 = 6 then allB x.f4 x.f4.length 0 && decide (x.f4.length = x.f3.length) else false
def oneB (x : S33) : Bool := preB x && postB x
abbrev one (k : Nat) (x : S33) := spec_l7One.f k x.f0 x.f1.f0 x.f1.f1 x.f2 x.f3 x.f4
abbrev vk (k : Nat) (x : S33) (D : Int) := impl_valueOk.f k x.f0 x.f1.f0 x.f1.f1 x.f2 x.f3 x.f4 D [Nm.words]
abbrev vall (k : Nat) (x : S33) := spec_l7All.f k x.f0 x.f1.f0 x.f1.f1 x.f2 x.f3 x.f4
abbrev vdp (k : Nat) (x : S33) := spec_l7Deep.f k x.f0 x.f1.f0 x.f1.f1 x.f2 x.f3 x.f4
theorem nil_iff (a : ByteArray) : (a.toList = ([] : List UInt8)) = (a.size = 0) := propext (Nm.toList_nil a)
theorem one_ev (x : S33) (hl : x.f4.length ≤ 1048576) (hs : ∀ s, s ∈ x.f4 → s.size ≤ 9223372036854775807) : Evn (fun k => one k x) (oneB x) := by
 have hn : Evn (fun k => spec_l7Names.f k x.f4) (allB x.f4 x.f4.length 0) := names_spec x.f4 hl hs x.f4.length 0 (by omega)
 have key0 : ∀ k, one k x = spec_l7One.j0 k x.f0 (decide (x.f0 = 0 ∨ x.f0 = 1 ∨ x.f0 = 2)) x.f0 x.f1.f0 x.f1.f1 x.f2 x.f3 x.f4 := by
  intro k
  show spec_l7One.f _ _ _ _ _ _ _ = _
  unfold spec_l7One.f
  by_cases h0 : x.f0 = 0
  ·rw [if_pos h0, h0]; rfl
  by_cases h1 : x.f0 = 1
  ·rw [if_neg h0, if_pos h1, h1]; rfl
  rw [if_neg h0, if_neg h1]
  by_cases h2 : x.f0 = 2
  ·rw [h2]; rfl
  ·rw [beq_false_of_ne h2, decide_eq_false (by omega)]
 refine Evn.of key0 ?_
 by_cases c : x.f0 = 6 ∧ (x.f1.f0 = 0 ∧ x.f1.f1 = 0) ∧ x.f2.size = 0 ∧ x.f4.length = x.f3.length
 ·obtain ⟨c0, ⟨c1, c2⟩, c3, c4⟩ := c
  have e : oneB x = allB x.f4 x.f4.length 0 := by
   unfold oneB preB postB
   rw [decide_eq_true (by omega), Bool.true_and, if_neg (by omega), if_neg (by omega), if_neg (by omega), if_pos c0, decide_eq_true c4, Bool.and_true]
  rw [e]
  refine Evn.step (g' := fun k => (spec_l7Names.f k x.f4).bind fun t => some t) (fun k => ?_) (Evn.bind hn (Evn.pure _))
  rw [spec_l7One.j0]
  simp [c0, c1, c2, c3, c4, nil_iff]
 ·refine Evn.step (g' := fun k => some (oneB x)) (fun k => ?_) (Evn.pure _)
  rw [spec_l7One.j0]
  simp only [spec_ok, Option.bind_some, nil_iff]
  unfold oneB preB postB
  by_cases h012 : x.f0 = 0 ∨ x.f0 = 1 ∨ x.f0 = 2
  ·simp only [h012, decide_true, if_true]
   by_cases g1 : x.f1.f0 = 0 <;> by_cases g2 : x.f1.f1 = 0 <;> by_cases g3 : x.f2.size = 0 <;> by_cases g4 : x.f3.length = 0 <;> by_cases g5 : x.f4.length = 0 <;> rcases h012 with h | h | h <;> simp [h, g1, g2, g3, g4, g5]
  by_cases h3 : x.f0 = 3
  ·by_cases g1 : Ok x.f1.f0 x.f1.f1 <;> by_cases g3 : x.f2.size = 0 <;> by_cases g4 : x.f3.length = 0 <;> by_cases g5 : x.f4.length = 0 <;> simp [h3, g1, g3, g4, g5]
  by_cases h4 : x.f0 = 4
  ·by_cases g1 : x.f1.f0 = 0 <;> by_cases g2 : x.f1.f1 = 0 <;> by_cases g3 : (x.f2.size : Int) ≤ 1500 <;> by_cases g4 : x.f3.length = 0 <;> by_cases g5 : x.f4.length = 0 <;> simp [h4, g1, g2, g3, g4, g5]
  by_cases h5 : x.f0 = 5
  ·by_cases g1 : x.f1.f0 = 0 <;> by_cases g2 : x.f1.f1 = 0 <;> by_cases g3 : x.f2.size = 0 <;> by_cases g5 : x.f4.length = 0 <;> simp [h5, g1, g2, g3, g5]
  by_cases h6 : x.f0 = 6
  ·by_cases g1 : x.f1.f0 = 0 <;> by_cases g2 : x.f1.f1 = 0 <;> by_cases g3 : x.f2.size = 0 <;> by_cases g5 : x.f4.length = x.f3.length <;> simp_all <;> omega
  ·have q0 : ¬ x.f0 = 0 := by omega
   have q1 : ¬ x.f0 = 1 := by omega
   have q2 : ¬ x.f0 = 2 := by omega
   simp [q0, q1, q2, h3, h4, h5, h6]
def A : Nat → S33 → Bool
 | 0, _ => true
 | n + 1, x => oneB x && x.f3.all (A n)
def mx (f : S33 → Nat) : List S33 → Nat → Nat
 | [], m => m
 | y :: ys, m => mx f ys (if f y > m then f y else m)
def dp : Nat → S33 → Nat
 | 0, _ => 0
 | n + 1, x => mx (dp n) x.f3 0 + 1
def I : Nat → Nat → S33 → Bool
 | _, 0, _ => false
 | 0, _ + 1, _ => true
 | n + 1, D + 1, x => oneB x && x.f3.all (I n D)
theorem mx_le (f : S33 → Nat) : ∀ (ys : List S33) (m D : Nat), mx f ys m ≤ D ↔ m ≤ D ∧ ∀ y, y ∈ ys → f y ≤ D
 | [], m, D => by simp [mx]
 | y :: ys, m, D => by
  rw [mx, mx_le f ys]
  constructor
  ·intro ⟨h1, h2⟩
   split at h1
   ·exact ⟨by omega, fun z hz => (List.mem_cons.1 hz).elim (fun e => by rw [e]; omega) (h2 z)⟩
   ·exact ⟨by omega, fun z hz => (List.mem_cons.1 hz).elim (fun e => by rw [e]; omega) (h2 z)⟩
  ·intro ⟨h1, h2⟩
   have := h2 y (List.mem_cons_self ..)
   refine ⟨by split <;> omega, fun z hz => h2 z (List.mem_cons_of_mem _ hz)⟩
theorem dp_le : ∀ (n : Nat) (x : S33), dp n x ≤ n
 | 0, _ => Nat.le_refl _
 | n + 1, x => by
  have := (mx_le (dp n) x.f3 0 n).2 ⟨by omega, fun y _ => dp_le n y⟩
  show mx (dp n) x.f3 0 + 1 ≤ n + 1
  omega
theorem I_eq : ∀ (n D : Nat) (x : S33), Lo n x → I n D x = (A n x && decide (dp n x ≤ D))
 | 0, _, _, h => h.elim
 | n + 1, 0, x, _ => by
  have : ¬ dp (n + 1) x ≤ 0 := by show ¬ mx (dp n) x.f3 0 + 1 ≤ 0; omega
  rw [decide_eq_false this, Bool.and_false]; rfl
 | n + 1, D + 1, x, ⟨_, hk, _⟩ => by
  have ih : ∀ y, y ∈ x.f3 → I n D y = (A n y && decide (dp n y ≤ D)) := fun y hy => I_eq n D y (hk y hy)
  have e : dp (n + 1) x ≤ D + 1 ↔ ∀ y, y ∈ x.f3 → dp n y ≤ D := by
   have := mx_le (dp n) x.f3 0 D
   show mx (dp n) x.f3 0 + 1 ≤ D + 1 ↔ _
   constructor
   ·intro h; exact (this.1 (by omega)).2
   ·intro h; have := this.2 ⟨by omega, h⟩; omega
  show (oneB x && x.f3.all (I n D)) = ((oneB x && x.f3.all (A n)) && decide (dp (n + 1) x ≤ D + 1))
  rw [Bool.and_assoc]
  congr 1
  rw [Bool.eq_iff_iff, Bool.and_eq_true, List.all_eq_true, List.all_eq_true, decide_eq_true_iff, e]
  constructor
  ·intro h
   have h' : ∀ y, y ∈ x.f3 → A n y = true ∧ dp n y ≤ D := fun y hy => by
    have := h y hy
    rw [ih y hy, Bool.and_eq_true, decide_eq_true_iff] at this
    exact this
   exact ⟨fun y hy => (h' y hy).1, fun y hy => (h' y hy).2⟩
  ·intro ⟨h1, h2⟩ y hy
   rw [ih y hy, h1 y hy, decide_eq_true (h2 y hy)]; rfl
theorem drop_get (xs : List S33) (i : Nat) (hi : i < xs.length) : xs.drop i = xs[i] :: xs.drop (i + 1) := List.drop_eq_getElem_cons hi
theorem deep_l0 (a b c : Int) (s : ByteArray) (ns : List ByteArray) (f : S33 → Nat) (xs : List S33) (hlen : xs.length ≤ 1048576) (ih : ∀ y, y ∈ xs → Evn (fun k => vdp k y) ((f y : Nat) : Int)) (hf : ∀ y, f y ≤ 2000000) :
  ∀ (d i m : Nat), i + d = xs.length → m ≤ 2000000 → Evn (fun k => spec_l7Deep.l0 k (m : Int) (i : Int) a b c s xs ns) ((mx f (xs.drop i) m + 1 : Nat) : Int)
 | 0, i, m, hd, hm => by
  rw [List.drop_eq_nil_of_le (by omega)]
  refine Evn.step (g' := fun _ => some ((m + 1 : Nat) : Int)) (fun k => ?_) (Evn.pure _)
  rw [spec_l7Deep.l0, if_neg (by omega), w64 _ (by omega)]; rfl
 | d + 1, i, m, hd, hm => by
  have hi : i < xs.length := by omega
  have hb := hf xs[i]
  have key : ∀ k, spec_l7Deep.l0 (k + 1) (m : Int) (i : Int) a b c s xs ns = (vdp k xs[i]).bind fun t => if t > (m : Int) then spec_l7Deep.l0 k t ((i + 1 : Nat) : Int) a b c s xs ns else spec_l7Deep.l0 k (m : Int) ((i + 1 : Nat) : Int) a b c s xs ns := by
   intro k
   rw [spec_l7Deep.l0, if_pos (by omega), if_pos (by omega), w1 i (by omega)]
   simp only [rd_T33, getD_nat _ _ _ hi]
  rw [drop_get xs i hi, mx]
  refine Evn.step key (Evn.bind (ih xs[i] (List.getElem_mem hi)) ?_)
  by_cases c1 : f xs[i] > m
  ·rw [if_pos c1]; exact Evn.ite_pos (by omega) (deep_l0 a b c s ns f xs hlen ih hf d (i + 1) _ (by omega) hb)
  ·rw [if_neg c1]; exact Evn.ite_neg (by omega) (deep_l0 a b c s ns f xs hlen ih hf d (i + 1) _ (by omega) hm)
theorem deep_ev : ∀ (n : Nat) (x : S33), n ≤ 2000000 → Lo n x → Evn (fun k => vdp k x) ((dp n x : Nat) : Int)
 | 0, _, _, hf => hf.elim
 | n + 1, x, hn, ⟨hl, hk, _⟩ => by
  have h := deep_l0 x.f0 x.f1.f0 x.f1.f1 x.f2 x.f4 (dp n) x.f3 hl (fun y hy => deep_ev n y (by omega) (hk y hy)) (fun y => by have := dp_le n y; omega) x.f3.length 0 0 (by omega) (by omega)
  rw [List.drop_zero] at h
  exact Evn.step (fun k => by show spec_l7Deep.f (k + 1) _ _ _ _ _ _ = _; rw [spec_l7Deep.f]; rfl) h
theorem all_l0 (a b c : Int) (s : ByteArray) (ns : List ByteArray) (f : S33 → Bool) (xs : List S33) (hlen : xs.length ≤ 1048576) (ih : ∀ y, y ∈ xs → Evn (fun k => vall k y) (f y)) :
  ∀ (d i : Nat), i + d = xs.length → Evn (fun k => spec_l7All.l0 k (i : Int) a b c s xs ns) ((xs.drop i).all f)
 | 0, i, hd => by
  rw [List.drop_eq_nil_of_le (by omega)]
  exact Evn.step (g' := fun _ => some true) (fun k => by rw [spec_l7All.l0, if_neg (by omega)]) (Evn.pure _)
 | d + 1, i, hd => by
  have hi : i < xs.length := by omega
  have key : ∀ k, spec_l7All.l0 (k + 1) (i : Int) a b c s xs ns = (vall k xs[i]).bind fun t => if t = true then spec_l7All.l0 k ((i + 1 : Nat) : Int) a b c s xs ns else some false := by
   intro k
   rw [spec_l7All.l0, if_pos (by omega), if_pos (by omega), w1 i (by omega)]
   simp only [rd_T33, getD_nat _ _ _ hi]
  rw [drop_get xs i hi, List.all_cons]
  refine Evn.step key (Evn.bind (ih xs[i] (List.getElem_mem hi)) ?_)
  by_cases c1 : f xs[i] = true
  ·rw [c1, Bool.true_and]; exact Evn.ite_pos rfl (all_l0 a b c s ns f xs hlen ih d (i + 1) (by omega))
  ·rw [Bool.eq_false_iff.2 c1, Bool.false_and]; exact Evn.ite_neg (by decide) (Evn.pure _)
theorem all_ev : ∀ (n : Nat) (x : S33), Lo n x → Evn (fun k => vall k x) (A n x)
 | 0, _, hf => hf.elim
 | n + 1, x, ⟨hl, hk, hn, hs⟩ => by
  have h := all_l0 x.f0 x.f1.f0 x.f1.f1 x.f2 x.f4 (A n) x.f3 hl (fun y hy => all_ev n y (hk y hy)) x.f3.length 0 (by omega)
  rw [List.drop_zero] at h
  have key : ∀ k, vall (k + 1) x = (one k x).bind fun t => if t = true then spec_l7All.l0 k ((0 : Nat) : Int) x.f0 x.f1.f0 x.f1.f1 x.f2 x.f3 x.f4 else some false := by
   intro k
   show spec_l7All.f (k + 1) _ _ _ _ _ _ = _
   rw [spec_l7All.f]; rfl
  refine Evn.step key (Evn.bind (one_ev x hn hs) ?_)
  show Evn _ (oneB x && x.f3.all (A n))
  by_cases c1 : oneB x = true
  ·rw [c1, Bool.true_and]; exact Evn.ite_pos rfl h
  ·rw [Bool.eq_false_iff.2 c1, Bool.false_and]; exact Evn.ite_neg (by decide) (Evn.pure _)
theorem any_l0 (f : S33 → Bool) (D : Nat) (hD : D ≤ 20) (xs : List S33) (hlen : xs.length ≤ 1048576) (ih : ∀ y, y ∈ xs → Evn (fun k => vk k y (D : Int)) (f y)) :
  ∀ (d i : Nat), i + d = xs.length → ∃ r : Int, Evn (fun k => impl_Value_55_at_valueOk_1.l0 k xs (xs.length : Int) (i : Int) [((D + 1 : Nat) : Int)] [Nm.words]) r ∧ (!decide (r ≥ 0)) = (xs.drop i).all f
 | 0, i, hd => ⟨-1, Evn.step (g' := fun _ => some (-1)) (fun k => by rw [impl_Value_55_at_valueOk_1.l0, if_neg (by omega)]) (Evn.pure _), by rw [List.drop_eq_nil_of_le (by omega)]; rfl⟩
 | d + 1, i, hd => by
  have hi : i < xs.length := by omega
  obtain ⟨r, hr, er⟩ := any_l0 f D hD xs hlen ih d (i + 1) (by omega)
  have key2 : ∀ k, impl_valueOk_1.f (k + 1) xs[i].f0 xs[i].f1.f0 xs[i].f1.f1 xs[i].f2 xs[i].f3 xs[i].f4 [Nm.words] [((D + 1 : Nat) : Int)] = (vk k xs[i] (D : Int)).bind fun t => some (!t) := by
   intro k
   rw [impl_valueOk_1.f, if_pos (show (0 : Int) < ((([((D + 1 : Nat) : Int)] : List Int).length : Nat) : Int) by simp), show rd [((D + 1 : Nat) : Int)] 0 = ((D + 1 : Nat) : Int) from rfl, w64 _ (by omega), show ((D + 1 : Nat) : Int) - 1 = (D : Int) by omega]
  have h1 : Evn (fun k => impl_valueOk_1.f k xs[i].f0 xs[i].f1.f0 xs[i].f1.f1 xs[i].f2 xs[i].f3 xs[i].f4 [Nm.words] [((D + 1 : Nat) : Int)]) (!(f xs[i])) := Evn.step key2 (Evn.bind (ih xs[i] (List.getElem_mem hi)) (Evn.pure _))
  have key : ∀ k, impl_Value_55_at_valueOk_1.l0 (k + 1) xs (xs.length : Int) (i : Int) [((D + 1 : Nat) : Int)] [Nm.words] = (impl_valueOk_1.f k xs[i].f0 xs[i].f1.f0 xs[i].f1.f1 xs[i].f2 xs[i].f3 xs[i].f4 [Nm.words] [((D + 1 : Nat) : Int)]).bind fun t => if t = true then some (i : Int) else impl_Value_55_at_valueOk_1.l0 k xs (xs.length : Int) ((i + 1 : Nat) : Int) [((D + 1 : Nat) : Int)] [Nm.words] := by
   intro k
   rw [impl_Value_55_at_valueOk_1.l0, if_pos (by omega), if_pos (by omega), if_pos (by omega), w1 i (by omega)]
   simp only [rd_T33, getD_nat _ _ _ hi]
  rw [drop_get xs i hi, List.all_cons]
  by_cases c1 : f xs[i] = true
  ·rw [c1, Bool.true_and]
   rw [c1] at h1
   exact ⟨r, Evn.step key (Evn.bind h1 (Evn.ite_neg (by decide) hr)), er⟩
  ·rw [Bool.eq_false_iff.2 c1, Bool.false_and]
   rw [Bool.eq_false_iff.2 c1] at h1
   exact ⟨(i : Int), Evn.step key (Evn.bind h1 (Evn.ite_pos rfl (Evn.pure _))), by rw [decide_eq_true (by omega)]; rfl⟩
theorem any_ev (f : S33 → Bool) (D : Nat) (hD : D ≤ 20) (xs : List S33) (hlen : xs.length ≤ 1048576) (ih : ∀ y, y ∈ xs → Evn (fun k => vk k y (D : Int)) (f y)) :
  Evn (fun k => (impl_Value_37_at_valueOk_1.f k xs [Nm.words] [((D + 1 : Nat) : Int)]).bind fun t => some (!t)) (xs.all f) := by
 obtain ⟨r, hr, er⟩ := any_l0 f D hD xs hlen ih xs.length 0 (by omega)
 rw [List.drop_zero] at er
 rw [← er]
 refine Evn.bind (a := decide (r ≥ 0)) ?_ (Evn.pure _)
 refine Evn.step (fun k => by rw [impl_Value_37_at_valueOk_1.f]) (Evn.bind (a := r) ?_ (Evn.pure _))
 exact Evn.step (fun k => by rw [impl_Value_55_at_valueOk_1.f]; rfl) hr
theorem key_f (x : S33) (D : Int) (k : Nat) : vk (k + 1) x D = impl_valueOk.j0 k (!(decide (D ≠ 0) && preB x)) [Nm.words] x.f0 x.f1.f0 x.f1.f1 x.f2 x.f3 x.f4 D := by
 show impl_valueOk.f (k + 1) _ _ _ _ _ _ _ _ = _
 rw [impl_valueOk.f]
 simp only [nil_iff]
 unfold preB
 by_cases h : D = 0
 ·rw [if_pos h, decide_eq_false (by omega), Bool.false_and, Bool.not_false]
 rw [if_neg h, decide_eq_true h, Bool.true_and]
 have hp : ((!(x.f1.f0 == 0) || (!(x.f1.f1 == 0))) = true) ↔ ¬ (x.f1.f0 = 0 ∧ x.f1.f1 = 0) := by
  by_cases a : x.f1.f0 = 0 <;> by_cases b : x.f1.f1 = 0 <;> simp [a, b]
 have yes : ∀ {p : Prop} [Decidable p] (b : Bool), (b = true ↔ ¬ p) → impl_valueOk.j0 k b [Nm.words] x.f0 x.f1.f0 x.f1.f1 x.f2 x.f3 x.f4 D = impl_valueOk.j0 k (!decide p) [Nm.words] x.f0 x.f1.f0 x.f1.f1 x.f2 x.f3 x.f4 D := by
  intro p _ b hb
  congr 1
  by_cases q : p
  ·rw [decide_eq_true q]; cases b
   ·rfl
   ·exact absurd q (hb.1 rfl)
  ·rw [decide_eq_false q]; cases b
   ·exact absurd (hb.2 q) (by decide)
   ·rfl
 simp only [hp]
 (repeat' split) <;> apply yes <;> simp only [true_iff, Bool.false_eq_true, false_iff, decide_eq_true_iff] <;> omega
theorem post_ev (f : S33 → Bool) (x : S33) (D : Nat) (hD : D ≤ 20) (hl : x.f3.length ≤ 1048576) (hn : x.f4.length ≤ 1048576) (hs : ∀ s, s ∈ x.f4 → s.size ≤ 9223372036854775807) (ih : ∀ y, y ∈ x.f3 → Evn (fun k => vk k y (D : Int)) (f y)) (hp : preB x = true) :
  Evn (fun k => impl_valueOk.j0 k false [Nm.words] x.f0 x.f1.f0 x.f1.f1 x.f2 x.f3 x.f4 ((D + 1 : Nat) : Int)) (postB x && x.f3.all f) := by
 have hany := any_ev f D hD x.f3 hl ih
 have hpre := of_decide_eq_true hp
 have key : ∀ k, impl_valueOk.j0 (k + 1) false [Nm.words] x.f0 x.f1.f0 x.f1.f1 x.f2 x.f3 x.f4 ((D + 1 : Nat) : Int) = impl_valueOk.j1 k x.f0 (decide (x.f0 = 0 ∨ x.f0 = 1 ∨ x.f0 = 2 ∨ x.f0 = 5)) [Nm.words] x.f0 x.f1.f0 x.f1.f1 x.f2 x.f3 x.f4 ((D + 1 : Nat) : Int) := by
  intro k
  rw [impl_valueOk.j0, if_neg (by decide)]
  by_cases h0 : x.f0 = 0
  ·rw [if_pos h0, h0]; rfl
  by_cases h1 : x.f0 = 1
  ·rw [if_neg h0, if_pos h1, h1]; rfl
  by_cases h2 : x.f0 = 2
  ·rw [if_neg h0, if_neg h1, if_pos h2, h2]; rfl
  rw [if_neg h0, if_neg h1, if_neg h2]
  by_cases h5 : x.f0 = 5
  ·rw [h5]; rfl
  ·rw [beq_false_of_ne h5, decide_eq_false (by omega)]
 refine Evn.step key ?_
 have no_items : x.f0 < 5 → x.f3.all f = true := fun h => by
  rw [List.eq_nil_of_length_eq_zero (hpre.2.2.1 h)]; rfl
 by_cases c : x.f0 = 0 ∨ x.f0 = 1 ∨ x.f0 = 2 ∨ x.f0 = 5
 ·have e : postB x = true := by unfold postB; rw [if_pos c]
  rw [e, Bool.true_and]
  refine Evn.step (fun k => ?_) hany
  rw [impl_valueOk.j1, if_pos (decide_eq_true c)]
 have key1 : ∀ k, impl_valueOk.j1 (k + 1) x.f0 (decide (x.f0 = 0 ∨ x.f0 = 1 ∨ x.f0 = 2 ∨ x.f0 = 5)) [Nm.words] x.f0 x.f1.f0 x.f1.f1 x.f2 x.f3 x.f4 ((D + 1 : Nat) : Int) = if x.f0 = 3 then some (decide (Ok x.f1.f0 x.f1.f1)) else if x.f0 = 4 then some (decide ((x.f2.size : Int) ≤ 1500)) else if x.f0 = 6 then impl_valueOk.l0 k x.f4 (x.f4.length : Int) ((0 : Nat) : Int) [Nm.words] x.f0 x.f1.f0 x.f1.f1 x.f2 x.f3 x.f4 ((D + 1 : Nat) : Int) else some false := by
  intro k
  rw [impl_valueOk.j1, if_neg (by simpa using c), impl_ok, Option.bind_some]; rfl
 refine Evn.step key1 ?_
 unfold postB
 rw [if_neg c]
 by_cases c3 : x.f0 = 3
 ·rw [if_pos c3, no_items (by omega), Bool.and_true]; exact Evn.ite_pos c3 (Evn.pure _)
 rw [if_neg c3]
 refine Evn.ite_neg c3 ?_
 by_cases c4 : x.f0 = 4
 ·rw [if_pos c4, no_items (by omega), Bool.and_true]; exact Evn.ite_pos c4 (Evn.pure _)
 rw [if_neg c4]
 refine Evn.ite_neg c4 ?_
 by_cases c6 : x.f0 = 6
 ·rw [if_pos c6, Bool.and_assoc]
  refine Evn.ite_pos c6 (names_impl x.f0 x.f1.f0 x.f1.f1 x.f2 x.f3 _ x.f4 hn hs _ ?_ x.f4.length 0 (by omega))
  by_cases q : x.f4.length = x.f3.length
  ·rw [decide_eq_true q, Bool.true_and]; exact Evn.ite_pos (by omega) hany
  ·rw [decide_eq_false q, Bool.false_and]; exact Evn.ite_neg (by omega) (Evn.pure _)
 ·rw [if_neg c6, Bool.false_and]
  exact Evn.ite_neg c6 (Evn.pure _)
theorem vk_ev : ∀ (n D : Nat) (x : S33), D ≤ 20 → Lo n x → Evn (fun k => vk k x (D : Int)) (I n D x)
 | 0, _, _, _, hf => hf.elim
 | n + 1, 0, x, _, _ => by
  refine Evn.step (key_f x _) (Evn.step (g' := fun _ => some false) (fun k => ?_) (Evn.pure _))
  have e : decide (((0 : Nat) : Int) ≠ 0) = false := by decide
  rw [impl_valueOk.j0, e, Bool.false_and, Bool.not_false, if_pos rfl]
 | n + 1, D + 1, x, hD, ⟨hl, hk, hn, hs⟩ => by
  refine Evn.step (key_f x _) ?_
  have e : decide (((D + 1 : Nat) : Int) ≠ 0) = true := decide_eq_true (by omega)
  rw [e, Bool.true_and]
  show Evn _ ((preB x && postB x) && x.f3.all (I n D))
  by_cases hp : preB x = true
  ·rw [hp, Bool.true_and]
   exact post_ev (I n D) x D (by omega) hl hn hs (fun y hy => vk_ev n D y (by omega) (hk y hy)) hp
  ·rw [Bool.eq_false_iff.2 hp, Bool.false_and, Bool.false_and]
   refine Evn.step (g' := fun _ => some false) (fun k => ?_) (Evn.pure _)
   rw [impl_valueOk.j0, Bool.not_false, if_pos rfl]
theorem ok_ev (n : Nat) (hn : n ≤ 2000000) (z : S33) (h : Lo n z) : ∃ r, Evn (fun k => spec_ValueOk.f k z.f0 z.f1.f0 z.f1.f1 z.f2 z.f3 z.f4) r ∧ Evn (fun k => impl_ValueOk.f k z.f0 z.f1.f0 z.f1.f1 z.f2 z.f3 z.f4 [Nm.words]) r := by
 obtain ⟨t, ht, ht'⟩ := Tv.size_ev n z h
 have hd := deep_ev n z hn h
 have ha := all_ev n z h
 have hv := vk_ev n 20 z (by omega) h
 rw [I_eq n 20 z h] at hv
 refine ⟨decide (t ≤ 200) && (decide (dp n z ≤ 20) && A n z), ?_, ?_⟩
 ·unfold spec_ValueOk.f
  refine Evn.bind ht ?_
  by_cases c : t ≤ 200
  ·rw [decide_eq_true c, Bool.true_and]
   refine Evn.ite_pos c (Evn.bind hd ?_)
   by_cases c2 : dp n z ≤ 20
   ·rw [decide_eq_true c2, Bool.true_and]
    exact Evn.ite_pos (by omega) (Evn.bind ha (Evn.pure _))
   ·rw [decide_eq_false c2, Bool.false_and]
    exact Evn.ite_neg (by omega) (Evn.pure _)
  ·rw [decide_eq_false c, Bool.false_and]
   exact Evn.ite_neg c (Evn.pure _)
 ·unfold impl_ValueOk.f
  rw [Bool.and_comm (decide (dp n z ≤ 20)), Bool.and_comm]
  refine Evn.bind hv ?_
  by_cases c : (A n z && decide (dp n z ≤ 20)) = true
  ·rw [c, Bool.true_and]
   exact Evn.ite_pos rfl (Evn.bind ht' (Evn.pure _))
  ·rw [Bool.eq_false_iff.2 c, Bool.false_and]
   exact Evn.ite_neg (by decide) (Evn.pure _)
end Go.Proofs.YtoajejdicfabmaaDoor.Vo
