import Derived.Test.YthaceblepbkjjaaDoorBFnExactIniPutPt
import Derived.Test.YthaceblepbkjjaaDoorBFnExactIniPutq4
namespace Go.Proofs.YthaceblepbkjjaaDoor.Tm
set_option linter.unusedVariables false
set_option linter.unusedSimpArgs false
open Go.RowKit Go.Proofs.YthaceblepbkjjaaDoor.Q Go.Proofs.YthaceblepbkjjaaDoor.Evs Go.Proofs.YthaceblepbkjjaaDoor.Th Go.Proofs.YthaceblepbkjjaaDoor.Tv Go.Proofs.YthaceblepbkjjaaDoor.Pt Go.Proofs.YthaceblepbkjjaaDoorW.PrintWords Go.Proofs.YthaceblepbkjjaaDoorW.PrintLast
/-! ### flat, and what fits -/
def F : Nat → S34 → Bool
 | 0, _ => true
 | n + 1, x => !decide (x.f0 = 0 ∨ x.f0 = 6) && x.f3.all (F n)
def G : Nat → S34 → Bool
 | 0, _ => true
 | n + 1, x => decide (x.f0 = 6) && x.f3.all fun y => F n y || G n y
abbrev iflat (k : Nat) (x : S34) := impl_flat.f k x.f0 x.f1.f0 x.f1.f1 x.f2 x.f3 x.f4
abbrev ifits (k : Nat) (x : S34) := impl_fits.f k x.f0 x.f1.f0 x.f1.f1 x.f2 x.f3 x.f4
/-- a search for what is not so -/
theorem any_l (l0 : Nat → List S34 → Int → Int → Option Int) (fn : Nat → S34 → Option Bool) (f : S34 → Bool) (xs : List S34) (hlen : xs.length ≤ 1048576)
  (heq : ∀ k i, l0 (k + 1) xs (xs.length : Int) i = if i < (xs.length : Int) then (if 0 ≤ i then (if i < (xs.length : Int) then ((fn k (rd_T34 xs i)).bind fun t => if t = true then some i else l0 k xs (xs.length : Int) (wrap64 (i + 1))) else none) else none) else some (-1))
  (ih : ∀ y, y ∈ xs → Evn (fun k => fn k y) (!(f y))) :
  ∀ (d i : Nat), i + d = xs.length → ∃ r : Int, Evn (fun k => l0 k xs (xs.length : Int) (i : Int)) r ∧ (!decide (r ≥ 0)) = (xs.drop i).all f
 | 0, i, hd => ⟨-1, Evn.step (g' := fun _ => some (-1)) (fun k => by rw [heq, if_neg (by omega)]) (Evn.pure _), by rw [List.drop_eq_nil_of_le (by omega)]; rfl⟩
 | d + 1, i, hd => by
  have hi : i < xs.length := by omega
  obtain ⟨r, hr, er⟩ := any_l l0 fn f xs hlen heq ih d (i + 1) (by omega)
  have h1 := ih xs[i] (List.getElem_mem hi)
  have key : ∀ k, l0 (k + 1) xs (xs.length : Int) (i : Int) = (fn k xs[i]).bind fun t => if t = true then some (i : Int) else l0 k xs (xs.length : Int) ((i + 1 : Nat) : Int) := by
   intro k
   rw [heq, if_pos (by omega), if_pos (by omega), if_pos (by omega), w1 i (by omega)]
   simp only [rd_T34, getD_nat _ _ _ hi]
  rw [Vo.drop_get xs i hi, List.all_cons]
  by_cases c1 : f xs[i] = true
  ·rw [c1, Bool.true_and]
   rw [c1] at h1
   exact ⟨r, Evn.step key (Evn.bind h1 (Evn.ite_neg (by decide) hr)), er⟩
  ·rw [Bool.eq_false_iff.2 c1, Bool.false_and]
   rw [Bool.eq_false_iff.2 c1] at h1
   exact ⟨(i : Int), Evn.step key (Evn.bind h1 (Evn.ite_pos rfl (Evn.pure _))), by rw [decide_eq_true (by omega)]; rfl⟩
theorem iflat_ev : ∀ (n : Nat) (x : S34), Lo n x → Evn (fun k => iflat k x) (F n x)
 | 0, _, hf => hf.elim
 | n + 1, x, ⟨hl, hk, hn, hs⟩ => by
  obtain ⟨r, hr, er⟩ := any_l impl_Value_36_at_flat_1.l0 (fun k y => impl_flat_1.f k y.f0 y.f1.f0 y.f1.f1 y.f2 y.f3 y.f4) (F n) x.f3 hl (fun k i => by rw [impl_Value_36_at_flat_1.l0]) (fun y hy => Evn.step (fun k => by show impl_flat_1.f (k + 1) _ _ _ _ _ _ = _; rw [impl_flat_1.f]) (Evn.bind (iflat_ev n y (hk y hy)) (Evn.pure _))) x.f3.length 0 (by omega)
  rw [List.drop_zero] at er
  have hany : Evn (fun k => (impl_Value_27_at_flat_1.f k x.f3).bind fun t => some (!t)) (x.f3.all (F n)) := by
   rw [← er]
   refine Evn.bind (a := decide (r ≥ 0)) ?_ (Evn.pure _)
   refine Evn.step (fun k => by rw [impl_Value_27_at_flat_1.f]) (Evn.bind (a := r) ?_ (Evn.pure _))
   exact Evn.step (fun k => by rw [impl_Value_36_at_flat_1.f]; rfl) hr
  refine Evn.step (fun k => by show impl_flat.f (k + 1) _ _ _ _ _ _ = _; rw [impl_flat.f]) ?_
  show Evn _ (!decide (x.f0 = 0 ∨ x.f0 = 6) && x.f3.all (F n))
  by_cases c0 : x.f0 = 0
  ·rw [decide_eq_true (.inl c0)]; exact Evn.ite_pos c0 (Evn.pure _)
  refine Evn.ite_neg c0 ?_
  by_cases c6 : x.f0 = 6
  ·rw [decide_eq_true (.inr c6)]; exact Evn.ite_pos c6 (Evn.pure _)
  rw [decide_eq_false (by omega), Bool.not_false, Bool.true_and]
  exact Evn.ite_neg c6 hany
theorem ifits_ev : ∀ (n : Nat) (x : S34), Lo n x → Evn (fun k => ifits k x) (G n x)
 | 0, _, hf => hf.elim
 | n + 1, x, ⟨hl, hk, hn, hs⟩ => by
  obtain ⟨r, hr, er⟩ := any_l impl_Value_36_at_fits_1.l0 (fun k y => impl_fits_1.f k y.f0 y.f1.f0 y.f1.f1 y.f2 y.f3 y.f4) (fun y => F n y || G n y) x.f3 hl (fun k i => by rw [impl_Value_36_at_fits_1.l0]) (fun y hy => Evn.step (fun k => by show impl_fits_1.f (k + 1) _ _ _ _ _ _ = _; rw [impl_fits_1.f]) (Evn.bind (iflat_ev n y (hk y hy)) (by
   by_cases c : F n y = true
   ·rw [c]; exact Evn.ite_pos rfl (Evn.pure _)
   ·rw [Bool.eq_false_iff.2 c, Bool.false_or]; exact Evn.ite_neg (by decide) (Evn.bind (ifits_ev n y (hk y hy)) (Evn.pure _))))) x.f3.length 0 (by omega)
  rw [List.drop_zero] at er
  have hany : Evn (fun k => (impl_Value_27_at_fits_1.f k x.f3).bind fun t => some (!t)) (x.f3.all fun y => F n y || G n y) := by
   rw [← er]
   refine Evn.bind (a := decide (r ≥ 0)) ?_ (Evn.pure _)
   refine Evn.step (fun k => by rw [impl_Value_27_at_fits_1.f]) (Evn.bind (a := r) ?_ (Evn.pure _))
   exact Evn.step (fun k => by rw [impl_Value_36_at_fits_1.f]; rfl) hr
  refine Evn.step (fun k => by show impl_fits.f (k + 1) _ _ _ _ _ _ = _; rw [impl_fits.f]) ?_
  show Evn _ (decide (x.f0 = 6) && x.f3.all fun y => F n y || G n y)
  by_cases c : x.f0 = 6
  ·rw [decide_eq_true c, Bool.true_and]; exact Evn.ite_pos c hany
  ·rw [decide_eq_false c, Bool.false_and]; exact Evn.ite_neg c (Evn.pure _)

/-! ### lines -/
def is3 : ByteArray := ⟨#[32, 61, 32]⟩
def lb : ByteArray := ⟨#[91]⟩
def rb : ByteArray := ⟨#[93, 10]⟩
def dot : ByteArray := ⟨#[46]⟩
def cat (s : Nat → ByteArray) : Nat → Nat → ByteArray → ByteArray
 | 0, _, acc => acc
 | d + 1, i, acc => cat s d (i + 1) (acc ++ s i)
def sumS (s : Nat → ByteArray) : Nat → Nat → Nat
 | 0, _ => 0
 | d + 1, i => (s i).size + sumS s d (i + 1)
theorem cat_size (s : Nat → ByteArray) : ∀ (d i : Nat) (acc : ByteArray), (cat s d i acc).size = acc.size + sumS s d i
 | 0, i, acc => rfl
 | d + 1, i, acc => by
  rw [cat, cat_size s d, ByteArray.size_append]
  show _ = acc.size + ((s i).size + sumS s d (i + 1))
  omega
def seg1 (n : Nat) (x : S34) (i : Nat) : ByteArray := if (itemAt x.f3 i).f0 = 6 then e0 else ((nameAt x.f4 i ++ is3) ++ P false n (itemAt x.f3 i) e0) ++ nl
def seg2 (g : S34 → ByteArray → ByteArray) (x : S34) (path : ByteArray) (i : Nat) : ByteArray := if (itemAt x.f3 i).f0 = 6 then ((lb ++ (path ++ nameAt x.f4 i)) ++ rb) ++ g (itemAt x.f3 i) ((path ++ nameAt x.f4 i) ++ dot) else e0
def T : Nat → S34 → ByteArray → ByteArray
 | 0, _, _ => e0
 | n + 1, x, path => cat (seg2 (T n) x path) x.f3.length 0 (cat (seg1 n x) x.f3.length 0 e0)
theorem sums (s1 s2 : Nat → ByteArray) (f : S34 → Nat) (xs : List S34) (h : ∀ i (hi : i < xs.length), (s1 i).size + (s2 i).size ≤ 20000 * f xs[i]) :
  ∀ (d i : Nat), i + d = xs.length → sumS s1 d i + sumS s2 d i ≤ 20000 * sumC f (xs.drop i)
 | 0, i, hd => by show 0 + 0 ≤ _; omega
 | d + 1, i, hd => by
  have hi : i < xs.length := by omega
  have ih := sums s1 s2 f xs h d (i + 1) (by omega)
  have h0 := h i hi
  rw [List.drop_eq_getElem_cons hi]
  show ((s1 i).size + sumS s1 d (i + 1)) + ((s2 i).size + sumS s2 d (i + 1)) ≤ 20000 * (f xs[i] + sumC f (xs.drop (i + 1)))
  omega
theorem facts (n : Nat) (x : S34) (hA : Vo.A (n + 1) x = true) : Vo.oneB x = true ∧ ∀ y, y ∈ x.f3 → Vo.A n y = true := by
 have hA' : (Vo.oneB x && x.f3.all (Vo.A n)) = true := hA
 rw [Bool.and_eq_true, List.all_eq_true] at hA'
 exact hA'
theorem dps (n : Nat) (x : S34) (y : S34) (hy : y ∈ x.f3) : Vo.dp n y + 1 ≤ Vo.dp (n + 1) x := by
 have := ((Vo.mx_le (Vo.dp n) x.f3 0 _).1 (Nat.le_refl _)).2 y hy
 show _ ≤ Vo.mx (Vo.dp n) x.f3 0 + 1
 omega
theorem T_size : ∀ (n : Nat) (x : S34) (path : ByteArray), Lo n x → Vo.A n x = true → x.f0 = 6 → Vo.dp n x ≤ 20 → path.size + 13 * Vo.dp n x ≤ 300 → (T n x path).size + 1000 ≤ 20000 * cI n x
 | 0, _, _, h, _, _, _, _ => h.elim
 | n + 1, x, path, ⟨hl, hk, hn, hs⟩, hA, h6, hd, hp => by
  obtain ⟨hone, hall⟩ := facts n x hA
  obtain ⟨_, _, q6⟩ := one_facts x hone
  obtain ⟨q1, q2⟩ := q6 h6
  have hseg : ∀ i (hi : i < x.f3.length), (seg1 n x i).size + (seg2 (T n) x path i).size ≤ 20000 * cI n x.f3[i] := fun i hi => by
   obtain ⟨ei, hm⟩ := item_mem x.f3 i hi
   have hnm := q2 i (by omega)
   have hd1 := dps n x _ hm
   unfold seg1 seg2
   rw [ei]
   have z3 : is3.size = 3 := rfl
   have z1 : nl.size = 1 := rfl
   have zl : lb.size = 1 := rfl
   have zr : rb.size = 2 := rfl
   have zd : dot.size = 1 := rfl
   have z0 : e0.size = 0 := rfl
   by_cases c : x.f3[i].f0 = 6
   ·have := T_size n x.f3[i] ((path ++ nameAt x.f4 i) ++ dot) (hk _ hm) (hall _ hm) c (by omega) (by rw [ByteArray.size_append, ByteArray.size_append]; omega)
    rw [if_pos c, if_pos c]
    simp only [ByteArray.size_append]
    omega
   ·have := P_size false n x.f3[i] e0 (hk _ hm) (hall _ hm) (by omega)
    rw [if_neg c, if_neg c]
    simp only [ByteArray.size_append]
    omega
  have hsum := sums (seg1 n x) (seg2 (T n) x path) (cI n) x.f3 hseg x.f3.length 0 (by omega)
  rw [List.drop_zero] at hsum
  have hc : cI (n + 1) x = 1 + sumC (cI n) x.f3 := rfl
  rw [T, cat_size, cat_size, hc, show e0.size = 0 from rfl]
  omega
abbrev stoml (k : Nat) (x : S34) (path : ByteArray) := spec_l12Toml.f k x.f0 x.f1.f0 x.f1.f1 x.f2 x.f3 x.f4 path
abbrev itoml (k : Nat) (x : S34) (path : ByteArray) (l : List Int) := impl_toml.f k x.f0 x.f1.f0 x.f1.f1 x.f2 x.f3 x.f4 path l
theorem s_l1 (x : S34) (path : ByteArray) (g : S34 → ByteArray → ByteArray) (hpa : path.size ≤ 300) (hlen : x.f3.length ≤ 1048576) (hnm : x.f4.length = x.f3.length ∧ ∀ j, j < x.f4.length → (nameAt x.f4 j).size ≤ 12)
  (ih : ∀ i (hi : i < x.f3.length), x.f3[i].f0 = 6 → Evn (fun k => stoml k x.f3[i] ((path ++ nameAt x.f4 i) ++ dot)) (g x.f3[i] ((path ++ nameAt x.f4 i) ++ dot))) :
  ∀ (d i : Nat) (acc : ByteArray), i + d = x.f3.length → (cat (seg2 g x path) d i acc).size ≤ 100000000000 → Evn (fun k => spec_l12Toml.l1 k path acc (i : Int) x.f0 x.f1.f0 x.f1.f1 x.f2 x.f3 x.f4) (cat (seg2 g x path) d i acc)
 | 0, i, acc, hd, hT => Evn.step (g' := fun _ => some acc) (fun k => by rw [spec_l12Toml.l1, if_neg (by omega)]) (Evn.pure _)
 | d + 1, i, acc, hd, hT => by
  have hi : i < x.f3.length := by omega
  obtain ⟨ei, hm⟩ := item_mem x.f3 i hi
  have IH := s_l1 x path g hpa hlen hnm ih d (i + 1) (acc ++ seg2 g x path i) (by omega) hT
  have hsz := cat_size (seg2 g x path) d (i + 1) (acc ++ seg2 g x path i)
  have hT' : (cat (seg2 g x path) d (i + 1) (acc ++ seg2 g x path i)).size ≤ 100000000000 := hT
  have hb : acc.size + (seg2 g x path i).size ≤ 100000000000 := by rw [ByteArray.size_append] at hsz; omega
  show Evn _ (cat (seg2 g x path) d (i + 1) (acc ++ seg2 g x path i))
  have hn := hnm.2 i (by omega)
  have hn2 : (rdOf ByteArray.empty x.f4 (i : Int)).size ≤ 12 := hn
  have zl : lb.size = 1 := rfl
  have zr : rb.size = 2 := rfl
  have zd : dot.size = 1 := rfl
  by_cases c : x.f3[i].f0 = 6
  ·have es : seg2 g x path i = ((lb ++ (path ++ nameAt x.f4 i)) ++ rb) ++ g x.f3[i] ((path ++ nameAt x.f4 i) ++ dot) := by unfold seg2; rw [ei, if_pos c]
   rw [es] at IH hb ⊢
   simp only [ByteArray.size_append] at hb
   have key : ∀ k, spec_l12Toml.l1 (k + 1) path acc (i : Int) x.f0 x.f1.f0 x.f1.f1 x.f2 x.f3 x.f4 = (stoml k x.f3[i] ((path ++ nameAt x.f4 i) ++ dot)).bind fun t => if (((acc ++ lb) ++ (path ++ nameAt x.f4 i)) ++ rb).size + t.size ≤ 9223372036854775807 then spec_l12Toml.l1 k path ((((acc ++ lb) ++ (path ++ nameAt x.f4 i)) ++ rb) ++ t) ((i + 1 : Nat) : Int) x.f0 x.f1.f0 x.f1.f1 x.f2 x.f3 x.f4 else none := by
    intro k
    rw [spec_l12Toml.l1, if_pos (by omega), if_pos (by omega), show rd_T34 x.f3 (i : Int) = x.f3[i] from ei, if_pos c, if_pos (by omega), show (⟨#[91]⟩ : ByteArray) = lb from rfl, show (⟨#[93, 10]⟩ : ByteArray) = rb from rfl, show (⟨#[46]⟩ : ByteArray) = dot from rfl, if_pos (by omega), if_pos (by omega), if_pos (by simp only [ByteArray.size_append]; omega), if_pos (by simp only [ByteArray.size_append]; omega), if_pos (by simp only [ByteArray.size_append]; omega), w1 i (by omega)]
   refine Evn.step key (Evn.bind (ih i hi c) (Evn.ite_pos (by simp only [ByteArray.size_append]; omega) ?_))
   have e : (((acc ++ lb) ++ (path ++ nameAt x.f4 i)) ++ rb) ++ g x.f3[i] ((path ++ nameAt x.f4 i) ++ dot) = acc ++ (((lb ++ (path ++ nameAt x.f4 i)) ++ rb) ++ g x.f3[i] ((path ++ nameAt x.f4 i) ++ dot)) := by
    simp only [assoc]
   rw [e]
   exact IH
  ·have es : seg2 g x path i = e0 := by unfold seg2; rw [ei, if_neg c]
   rw [es, app_e0] at IH ⊢
   have key : ∀ k, spec_l12Toml.l1 (k + 1) path acc (i : Int) x.f0 x.f1.f0 x.f1.f1 x.f2 x.f3 x.f4 = spec_l12Toml.l1 k path acc ((i + 1 : Nat) : Int) x.f0 x.f1.f0 x.f1.f1 x.f2 x.f3 x.f4 := by
    intro k
    rw [spec_l12Toml.l1, if_pos (by omega), if_pos (by omega), show rd_T34 x.f3 (i : Int) = x.f3[i] from ei, if_neg c, w1 i (by omega)]
   exact Evn.step key IH
theorem s_l0 (n : Nat) (x : S34) (path : ByteArray) (hlen : x.f3.length ≤ 1048576) (hnm : x.f4.length = x.f3.length ∧ ∀ j, j < x.f4.length → (nameAt x.f4 j).size ≤ 12) (r : ByteArray)
  (ih : ∀ y, y ∈ x.f3 → Evn (fun k => sput k y) (P false n y e0)) (hr : Evn (fun k => spec_l12Toml.l1 k path (cat (seg1 n x) x.f3.length 0 e0) ((0 : Nat) : Int) x.f0 x.f1.f0 x.f1.f1 x.f2 x.f3 x.f4) r) :
  ∀ (d i : Nat) (acc : ByteArray), i + d = x.f3.length → (cat (seg1 n x) d i acc).size ≤ 100000000000 → cat (seg1 n x) d i acc = cat (seg1 n x) x.f3.length 0 e0 → Evn (fun k => spec_l12Toml.l0 k path acc (i : Int) x.f0 x.f1.f0 x.f1.f1 x.f2 x.f3 x.f4) r
 | 0, i, acc, hd, hT, hc => by
  have hc' : acc = cat (seg1 n x) x.f3.length 0 e0 := hc
  rw [← hc'] at hr
  exact Evn.step (fun k => by rw [spec_l12Toml.l0, if_neg (by omega)]; rfl) hr
 | d + 1, i, acc, hd, hT, hc => by
  have hi : i < x.f3.length := by omega
  obtain ⟨ei, hm⟩ := item_mem x.f3 i hi
  have IH := s_l0 n x path hlen hnm r ih hr d (i + 1) (acc ++ seg1 n x i) (by omega) hT hc
  have hsz := cat_size (seg1 n x) d (i + 1) (acc ++ seg1 n x i)
  have hT' : (cat (seg1 n x) d (i + 1) (acc ++ seg1 n x i)).size ≤ 100000000000 := hT
  have hb : acc.size + (seg1 n x i).size ≤ 100000000000 := by rw [ByteArray.size_append] at hsz; omega
  have hn := hnm.2 i (by omega)
  have hn2 : (rdOf ByteArray.empty x.f4 (i : Int)).size ≤ 12 := hn
  have z3 : is3.size = 3 := rfl
  have z1 : nl.size = 1 := rfl
  by_cases c : x.f3[i].f0 = 6
  ·have es : seg1 n x i = e0 := by unfold seg1; rw [ei, if_pos c]
   rw [es, app_e0] at IH
   have key : ∀ k, spec_l12Toml.l0 (k + 1) path acc (i : Int) x.f0 x.f1.f0 x.f1.f1 x.f2 x.f3 x.f4 = spec_l12Toml.l0 k path acc ((i + 1 : Nat) : Int) x.f0 x.f1.f0 x.f1.f1 x.f2 x.f3 x.f4 := by
    intro k
    rw [spec_l12Toml.l0, if_pos (by omega), if_pos (by omega), show rd_T34 x.f3 (i : Int) = x.f3[i] from ei, if_pos c, w1 i (by omega)]
   exact Evn.step key IH
  ·have es : seg1 n x i = ((nameAt x.f4 i ++ is3) ++ P false n x.f3[i] e0) ++ nl := by unfold seg1; rw [ei, if_neg c]
   rw [es] at IH hb
   simp only [ByteArray.size_append] at hb
   have key : ∀ k, spec_l12Toml.l0 (k + 1) path acc (i : Int) x.f0 x.f1.f0 x.f1.f1 x.f2 x.f3 x.f4 = (sput k x.f3[i]).bind fun t => if ((acc ++ nameAt x.f4 i) ++ is3).size + t.size ≤ 9223372036854775807 then (if (((acc ++ nameAt x.f4 i) ++ is3) ++ t).size + 1 ≤ 9223372036854775807 then spec_l12Toml.l0 k path ((((acc ++ nameAt x.f4 i) ++ is3) ++ t) ++ nl) ((i + 1 : Nat) : Int) x.f0 x.f1.f0 x.f1.f1 x.f2 x.f3 x.f4 else none) else none := by
    intro k
    rw [spec_l12Toml.l0, if_pos (by omega), if_pos (by omega), show rd_T34 x.f3 (i : Int) = x.f3[i] from ei, if_neg c, if_pos (by omega), show (⟨#[32, 61, 32]⟩ : ByteArray) = is3 from rfl, show (⟨#[10]⟩ : ByteArray) = nl from rfl, if_pos (by omega), if_pos (by simp only [ByteArray.size_append]; omega), w1 i (by omega)]
   refine Evn.step key (Evn.bind (ih _ hm) (Evn.ite_pos (by simp only [ByteArray.size_append]; omega) (Evn.ite_pos (by simp only [ByteArray.size_append]; omega) ?_)))
   have e : (((acc ++ nameAt x.f4 i) ++ is3) ++ P false n x.f3[i] e0) ++ nl = acc ++ (((nameAt x.f4 i ++ is3) ++ P false n x.f3[i] e0) ++ nl) := by
    simp only [assoc]
   rw [e]
   exact IH
theorem i_l1 (x : S34) (path : ByteArray) (l : List Int) (g : S34 → ByteArray → ByteArray) (hpa : path.size ≤ 300) (hlen : x.f3.length ≤ 1048576) (hnm : x.f4.length = x.f3.length ∧ ∀ j, j < x.f4.length → (nameAt x.f4 j).size ≤ 12)
  (ih : ∀ i (hi : i < x.f3.length), x.f3[i].f0 = 6 → Evn (fun k => itoml k x.f3[i] ((path ++ nameAt x.f4 i) ++ dot) l) (g x.f3[i] ((path ++ nameAt x.f4 i) ++ dot))) :
  ∀ (d i : Nat) (acc : ByteArray), i + d = x.f3.length → (cat (seg2 g x path) d i acc).size ≤ 100000000000 → Evn (fun k => impl_toml.l1 k path acc x.f3 (x.f3.length : Int) (i : Int) l x.f0 x.f1.f0 x.f1.f1 x.f2 x.f3 x.f4) (cat (seg2 g x path) d i acc)
 | 0, i, acc, hd, hT => Evn.step (g' := fun _ => some acc) (fun k => by rw [impl_toml.l1, if_neg (by omega)]) (Evn.pure _)
 | d + 1, i, acc, hd, hT => by
  have hi : i < x.f3.length := by omega
  obtain ⟨ei, hm⟩ := item_mem x.f3 i hi
  have IH := i_l1 x path l g hpa hlen hnm ih d (i + 1) (acc ++ seg2 g x path i) (by omega) hT
  have hsz := cat_size (seg2 g x path) d (i + 1) (acc ++ seg2 g x path i)
  have hT' : (cat (seg2 g x path) d (i + 1) (acc ++ seg2 g x path i)).size ≤ 100000000000 := hT
  have hb : acc.size + (seg2 g x path i).size ≤ 100000000000 := by rw [ByteArray.size_append] at hsz; omega
  show Evn _ (cat (seg2 g x path) d (i + 1) (acc ++ seg2 g x path i))
  have hn := hnm.2 i (by omega)
  have hn2 : (rdOf ByteArray.empty x.f4 (i : Int)).size ≤ 12 := hn
  have zl : lb.size = 1 := rfl
  have zr : rb.size = 2 := rfl
  have zd : dot.size = 1 := rfl
  by_cases c : x.f3[i].f0 = 6
  ·have es : seg2 g x path i = ((lb ++ (path ++ nameAt x.f4 i)) ++ rb) ++ g x.f3[i] ((path ++ nameAt x.f4 i) ++ dot) := by unfold seg2; rw [ei, if_pos c]
   rw [es] at IH hb ⊢
   simp only [ByteArray.size_append] at hb
   have key : ∀ k, impl_toml.l1 (k + 1) path acc x.f3 (x.f3.length : Int) (i : Int) l x.f0 x.f1.f0 x.f1.f1 x.f2 x.f3 x.f4 = (itoml k x.f3[i] ((path ++ nameAt x.f4 i) ++ dot) l).bind fun t => if (((lb ++ path) ++ nameAt x.f4 i) ++ rb).size + t.size ≤ 9223372036854775807 then (if acc.size + ((((lb ++ path) ++ nameAt x.f4 i) ++ rb) ++ t).size ≤ 9223372036854775807 then impl_toml.l1 k path (acc ++ ((((lb ++ path) ++ nameAt x.f4 i) ++ rb) ++ t)) x.f3 (x.f3.length : Int) ((i + 1 : Nat) : Int) l x.f0 x.f1.f0 x.f1.f1 x.f2 x.f3 x.f4 else none) else none := by
    intro k
    rw [impl_toml.l1, if_pos (by omega), if_pos (by omega), if_pos (by omega), show rd_T34 x.f3 (i : Int) = x.f3[i] from ei, if_pos c, show (⟨#[91]⟩ : ByteArray) = lb from rfl, show (⟨#[93, 10]⟩ : ByteArray) = rb from rfl, show (⟨#[46]⟩ : ByteArray) = dot from rfl, if_pos (by omega), if_pos (by omega), if_pos (by simp only [ByteArray.size_append]; omega), if_pos (by simp only [ByteArray.size_append]; omega), if_pos (by omega), if_pos (by simp only [ByteArray.size_append]; omega), w1 i (by omega)]
   refine Evn.step key (Evn.bind (ih i hi c) (Evn.ite_pos (by simp only [ByteArray.size_append]; omega) (Evn.ite_pos (by simp only [ByteArray.size_append]; omega) ?_)))
   have e : acc ++ ((((lb ++ path) ++ nameAt x.f4 i) ++ rb) ++ g x.f3[i] ((path ++ nameAt x.f4 i) ++ dot)) = acc ++ (((lb ++ (path ++ nameAt x.f4 i)) ++ rb) ++ g x.f3[i] ((path ++ nameAt x.f4 i) ++ dot)) := by
    simp only [assoc]
   rw [e]
   exact IH
  ·have es : seg2 g x path i = e0 := by unfold seg2; rw [ei, if_neg c]
   rw [es, app_e0] at IH ⊢
   have key : ∀ k, impl_toml.l1 (k + 1) path acc x.f3 (x.f3.length : Int) (i : Int) l x.f0 x.f1.f0 x.f1.f1 x.f2 x.f3 x.f4 = impl_toml.l1 k path acc x.f3 (x.f3.length : Int) ((i + 1 : Nat) : Int) l x.f0 x.f1.f0 x.f1.f1 x.f2 x.f3 x.f4 := by
    intro k
    rw [impl_toml.l1, if_pos (by omega), if_pos (by omega), if_pos (by omega), show rd_T34 x.f3 (i : Int) = x.f3[i] from ei, if_neg c, w1 i (by omega)]
   exact Evn.step key IH
theorem i_l0 (n : Nat) (x : S34) (path : ByteArray) (l : List Int) (hlen : x.f3.length ≤ 1048576) (hnm : x.f4.length = x.f3.length ∧ ∀ j, j < x.f4.length → (nameAt x.f4 j).size ≤ 12) (r : ByteArray)
  (ih : ∀ y, y ∈ x.f3 → Evn (fun k => lay k y false e0 l) (P false n y e0)) (hr : Evn (fun k => impl_toml.l1 k path (cat (seg1 n x) x.f3.length 0 e0) x.f3 (x.f3.length : Int) ((0 : Nat) : Int) l x.f0 x.f1.f0 x.f1.f1 x.f2 x.f3 x.f4) r) :
  ∀ (d i : Nat) (acc : ByteArray), i + d = x.f3.length → (cat (seg1 n x) d i acc).size ≤ 100000000000 → cat (seg1 n x) d i acc = cat (seg1 n x) x.f3.length 0 e0 → Evn (fun k => impl_toml.l0 k path acc x.f3 (x.f3.length : Int) (i : Int) l x.f0 x.f1.f0 x.f1.f1 x.f2 x.f3 x.f4) r
 | 0, i, acc, hd, hT, hc => by
  have hc' : acc = cat (seg1 n x) x.f3.length 0 e0 := hc
  rw [← hc'] at hr
  exact Evn.step (fun k => by rw [impl_toml.l0, if_neg (by omega)]; rfl) hr
 | d + 1, i, acc, hd, hT, hc => by
  have hi : i < x.f3.length := by omega
  obtain ⟨ei, hm⟩ := item_mem x.f3 i hi
  have IH := i_l0 n x path l hlen hnm r ih hr d (i + 1) (acc ++ seg1 n x i) (by omega) hT hc
  have hsz := cat_size (seg1 n x) d (i + 1) (acc ++ seg1 n x i)
  have hT' : (cat (seg1 n x) d (i + 1) (acc ++ seg1 n x i)).size ≤ 100000000000 := hT
  have hb : acc.size + (seg1 n x i).size ≤ 100000000000 := by rw [ByteArray.size_append] at hsz; omega
  have hn := hnm.2 i (by omega)
  have hn2 : (rdOf ByteArray.empty x.f4 (i : Int)).size ≤ 12 := hn
  have z3 : is3.size = 3 := rfl
  have z1 : nl.size = 1 := rfl
  by_cases c : x.f3[i].f0 = 6
  ·have es : seg1 n x i = e0 := by unfold seg1; rw [ei, if_pos c]
   rw [es, app_e0] at IH
   have key : ∀ k, impl_toml.l0 (k + 1) path acc x.f3 (x.f3.length : Int) (i : Int) l x.f0 x.f1.f0 x.f1.f1 x.f2 x.f3 x.f4 = impl_toml.l0 k path acc x.f3 (x.f3.length : Int) ((i + 1 : Nat) : Int) l x.f0 x.f1.f0 x.f1.f1 x.f2 x.f3 x.f4 := by
    intro k
    rw [impl_toml.l0, if_pos (by omega), if_pos (by omega), if_pos (by omega), show rd_T34 x.f3 (i : Int) = x.f3[i] from ei, if_pos c, w1 i (by omega)]
   exact Evn.step key IH
  ·have es : seg1 n x i = ((nameAt x.f4 i ++ is3) ++ P false n x.f3[i] e0) ++ nl := by unfold seg1; rw [ei, if_neg c]
   rw [es] at IH hb
   simp only [ByteArray.size_append] at hb
   have key : ∀ k, impl_toml.l0 (k + 1) path acc x.f3 (x.f3.length : Int) (i : Int) l x.f0 x.f1.f0 x.f1.f1 x.f2 x.f3 x.f4 = (lay k x.f3[i] false e0 l).bind fun t => if (nameAt x.f4 i ++ is3).size + t.size ≤ 9223372036854775807 then (if ((nameAt x.f4 i ++ is3) ++ t).size + 1 ≤ 9223372036854775807 then (if acc.size + (((nameAt x.f4 i ++ is3) ++ t) ++ nl).size ≤ 9223372036854775807 then impl_toml.l0 k path (acc ++ (((nameAt x.f4 i ++ is3) ++ t) ++ nl)) x.f3 (x.f3.length : Int) ((i + 1 : Nat) : Int) l x.f0 x.f1.f0 x.f1.f1 x.f2 x.f3 x.f4 else none) else none) else none := by
    intro k
    rw [impl_toml.l0, if_pos (by omega), if_pos (by omega), if_pos (by omega), show rd_T34 x.f3 (i : Int) = x.f3[i] from ei, if_neg c, if_pos (by omega), show (⟨#[32, 61, 32]⟩ : ByteArray) = is3 from rfl, show (⟨#[10]⟩ : ByteArray) = nl from rfl, if_pos (by omega), w1 i (by omega)]
    rfl
   refine Evn.step key (Evn.bind (ih _ hm) (Evn.ite_pos (by simp only [ByteArray.size_append]; omega) (Evn.ite_pos (by simp only [ByteArray.size_append]; omega) (Evn.ite_pos (by simp only [ByteArray.size_append]; omega) IH))))
theorem toml_ev (l : List Int) : ∀ (n : Nat) (x : S34) (path : ByteArray), Lo n x → Vo.A n x = true → x.f0 = 6 → Vo.dp n x ≤ 20 → path.size + 13 * Vo.dp n x ≤ 300 → cI n x ≤ 1048577 → Evn (fun k => stoml k x path) (T n x path) ∧ Evn (fun k => itoml k x path l) (T n x path)
 | 0, _, _, h, _, _, _, _, _ => h.elim
 | n + 1, x, path, hLo, hA, h6, hd, hp, hc => by
  have hsz := T_size (n + 1) x path hLo hA h6 hd hp
  obtain ⟨hl, hk, hn, hs⟩ := hLo
  obtain ⟨hone, hall⟩ := facts n x hA
  obtain ⟨_, _, q6⟩ := one_facts x hone
  have hnm := q6 h6
  have hcc : ∀ y, y ∈ x.f3 → cI n y ≤ 1048577 := fun y hy => by
   have h1 := sumC_mem (cI n) x.f3 y hy
   have h2 : cI (n + 1) x = 1 + sumC (cI n) x.f3 := rfl
   omega
  have hTs : (cat (seg2 (T n) x path) x.f3.length 0 (cat (seg1 n x) x.f3.length 0 e0)).size ≤ 100000000000 := by
   have : (T (n + 1) x path).size ≤ 100000000000 := by omega
   exact this
  have h1s : (cat (seg1 n x) x.f3.length 0 e0).size ≤ 100000000000 := by
   have := cat_size (seg2 (T n) x path) x.f3.length 0 (cat (seg1 n x) x.f3.length 0 e0)
   omega
  have hrec : ∀ i (hi : i < x.f3.length), x.f3[i].f0 = 6 → Evn (fun k => stoml k x.f3[i] ((path ++ nameAt x.f4 i) ++ dot)) (T n x.f3[i] ((path ++ nameAt x.f4 i) ++ dot)) ∧ Evn (fun k => itoml k x.f3[i] ((path ++ nameAt x.f4 i) ++ dot) l) (T n x.f3[i] ((path ++ nameAt x.f4 i) ++ dot)) := fun i hi c => by
   have hm : x.f3[i] ∈ x.f3 := List.getElem_mem hi
   have hd1 := dps n x _ hm
   have hnn := hnm.2 i (by omega)
   have zd : dot.size = 1 := rfl
   exact toml_ev l n x.f3[i] ((path ++ nameAt x.f4 i) ++ dot) (hk _ hm) (hall _ hm) c (by omega) (by rw [ByteArray.size_append, ByteArray.size_append]; omega) (hcc _ hm)
  have a1 := s_l1 x path (T n) (by omega) hl hnm (fun i hi c => (hrec i hi c).1) x.f3.length 0 (cat (seg1 n x) x.f3.length 0 e0) (by omega) hTs
  have a2 := i_l1 x path l (T n) (by omega) hl hnm (fun i hi c => (hrec i hi c).2) x.f3.length 0 (cat (seg1 n x) x.f3.length 0 e0) (by omega) hTs
  have b1 := s_l0 n x path hl hnm _ (fun y hy => put_ev n y (hk y hy) (hall y hy) (by have := dps n x y hy; omega) (hcc y hy)) a1 x.f3.length 0 e0 (by omega) h1s rfl
  have b2 := i_l0 n x path l hl hnm _ (fun y hy => lay_ev false l n y e0 (hk y hy) (hall y hy) (by have := dps n x y hy; rw [show e0.size = 0 from rfl]; omega) (hcc y hy)) a2 x.f3.length 0 e0 (by omega) h1s rfl
  exact ⟨Evn.step (fun k => by show spec_l12Toml.f (k + 1) _ _ _ _ _ _ _ = _; rw [spec_l12Toml.f]; rfl) b1, Evn.step (fun k => by show impl_toml.f (k + 1) _ _ _ _ _ _ _ _ = _; rw [impl_toml.f]; rfl) b2⟩
theorem G_six : ∀ (n : Nat) (x : S34), Lo n x → G n x = true → x.f0 = 6
 | 0, _, h, _ => h.elim
 | n + 1, x, _, h => by
  have h' : (decide (x.f0 = 6) && x.f3.all fun y => F n y || G n y) = true := h
  rw [Bool.and_eq_true] at h'
  exact of_decide_eq_true h'.1
end Go.Proofs.YthaceblepbkjjaaDoor.Tm
