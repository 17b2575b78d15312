import Derived.Test.YtoajejdicfabmaaDoorBFnValueCmpVo
namespace Go.Proofs.YtoajejdicfabmaaDoor.Co
set_option linter.unusedVariables false
set_option linter.unusedSimpArgs false
open Go.RowKit Go.Proofs.YtoajejdicfabmaaDoor.Q Go.Proofs.YtoajejdicfabmaaDoor.Th Go.Proofs.YtoajejdicfabmaaDoor.Evs Go.Proofs.YtoajejdicfabmaaDoor.Tv Go.Proofs.YtoajejdicfabmaaDoorW.PrintWords Go.Proofs.YtoajejdicfabmaaDoorW.PrintLast
def ord (x y : Int) : Int := if x < y then -1 else if y < x then 1 else 0
def o2 (x y : Int) : Int := if x ≠ 0 then x else y
def T3 (x y z : Int) : Prop := (-1 ≤ x ∧ x ≤ 1) ∧ (-1 ≤ y ∧ y ≤ 1) ∧ (-1 ≤ z ∧ z ≤ 1) ∧ (x ≤ 0 → y ≤ 0 → z ≤ 0) ∧ (0 ≤ x → 0 ≤ y → 0 ≤ z) ∧ (x < 0 → y ≤ 0 → z < 0) ∧ (x ≤ 0 → y < 0 → z < 0) ∧ (0 < x → 0 ≤ y → 0 < z) ∧ (0 ≤ x → 0 < y → 0 < z)
theorem t3_o2 {x y z u v w : Int} (h : T3 x y z) (k : T3 u v w) : T3 (o2 x u) (o2 y v) (o2 z w) := by
 unfold T3 o2 at *
 (repeat' split) <;> omega
theorem t3_ord (a b c : Int) : T3 (ord a b) (ord b c) (ord a c) := by
 unfold T3 ord
 (repeat' split) <;> omega
theorem ord_swap (a b : Int) : ord b a = - ord a b := by
 unfold ord
 (repeat' split) <;> omega
theorem o2_swap {x y x' y' : Int} (h : x' = -x) (k : y' = -y) : o2 x' y' = - o2 x y := by
 unfold o2
 (repeat' split) <;> omega
theorem t3_zero : T3 0 0 0 := by unfold T3; omega
def cB : List UInt8 → List UInt8 → Int
 | [], [] => 0
 | [], _ :: _ => -1
 | _ :: _, [] => 1
 | a :: x, b :: y => o2 (ord a.toNat b.toNat) (cB x y)
theorem cB_swap : ∀ a b, cB b a = - cB a b
 | [], [] => rfl
 | [], _ :: _ => rfl
 | _ :: _, [] => rfl
 | a :: x, b :: y => o2_swap (ord_swap _ _) (cB_swap x y)
theorem t3_cB : ∀ a b c, T3 (cB a b) (cB b c) (cB a c)
 | [], [], [] => t3_zero
 | [], [], _ :: _ => by simp only [cB]; unfold T3; omega
 | [], _ :: _, [] => by simp only [cB]; unfold T3; omega
 | _ :: _, [], [] => by simp only [cB]; unfold T3; omega
 | _ :: _, [], _ :: _ => by
  have h := (t3_cB [] [] []).1
  rename_i a x b y
  have h2 : -1 ≤ cB (a :: x) (b :: y) ∧ cB (a :: x) (b :: y) ≤ 1 := cB_range _ _
  simp only [cB] at h2 ⊢
  unfold T3
  omega
 | [], b :: y, c :: z => by
  have h2 : -1 ≤ cB (b :: y) (c :: z) ∧ cB (b :: y) (c :: z) ≤ 1 := cB_range _ _
  simp only [cB] at h2 ⊢
  unfold T3
  omega
 | a :: x, b :: y, [] => by
  have h2 : -1 ≤ cB (a :: x) (b :: y) ∧ cB (a :: x) (b :: y) ≤ 1 := cB_range _ _
  simp only [cB] at h2 ⊢
  unfold T3
  omega
 | a :: x, b :: y, c :: z => t3_o2 (t3_ord _ _ _) (t3_cB x y z)
where cB_range : ∀ a b, -1 ≤ cB a b ∧ cB a b ≤ 1
 | [], [] => by decide
 | [], _ :: _ => by simp [cB]
 | _ :: _, [] => by simp [cB]
 | a :: x, b :: y => by
  have := cB_range x y
  show -1 ≤ o2 (ord a.toNat b.toNat) (cB x y) ∧ o2 (ord a.toNat b.toNat) (cB x y) ≤ 1
  unfold o2 ord
  (repeat' split) <;> omega
theorem u8_lt (a b : UInt8) : (a < b) = ((a.toNat : Int) < b.toNat) := by rw [UInt8.lt_iff_toNat_lt]; simp
theorem compare_cB : ∀ a b, Go.Lib.compareBytes a b = cB a b
 | [], [] => rfl
 | [], _ :: _ => rfl
 | _ :: _, [] => rfl
 | a :: x, b :: y => by
  have ih := compare_cB x y
  show (if a < b then -1 else if b < a then 1 else Go.Lib.compareBytes x y) = o2 (ord a.toNat b.toNat) (cB x y)
  rw [ih]
  simp only [u8_lt]
  unfold o2 ord
  (repeat' split) <;> omega
theorem less_cB : ∀ a b, Op.bytesLess a b = decide (cB a b < 0)
 | [], [] => rfl
 | [], _ :: _ => rfl
 | _ :: _, [] => rfl
 | a :: x, b :: y => by
  have ih := less_cB x y
  show (decide (a < b) || (a == b && Op.bytesLess x y)) = decide (o2 (ord a.toNat b.toNat) (cB x y) < 0)
  rw [ih]
  have e : (a == b) = decide ((a.toNat : Int) = b.toNat) := by
   rw [Bool.eq_iff_iff, beq_iff_eq, decide_eq_true_eq]
   constructor
   ·rintro rfl; rfl
   ·intro h; exact UInt8.toNat_inj.1 (by omega)
  rw [e, Bool.eq_iff_iff]
  simp only [Bool.or_eq_true, Bool.and_eq_true, decide_eq_true_eq, u8_lt]
  unfold o2 ord
  (repeat' split) <;> omega
theorem cB_zero : ∀ a b, cB a b = 0 → a = b
 | [], [], _ => rfl
 | [], _ :: _, h => by simp [cB] at h
 | _ :: _, [], h => by simp [cB] at h
 | a :: x, b :: y, h => by
  have h : o2 (ord a.toNat b.toNat) (cB x y) = 0 := h
  have h1 : (a.toNat : Int) = b.toNat ∧ cB x y = 0 := by
   unfold o2 ord at h
   revert h
   (repeat' split) <;> omega
  rw [cB_zero x y h1.2, UInt8.toNat_inj.1 (show a.toNat = b.toNat by omega)]
theorem cB_same (a : List UInt8) : cB a a = 0 := by have := cB_swap a a; omega
def cS (s t : ByteArray) : Int := cB s.toList t.toList
def cL (f : S33 → S33 → Int) : List S33 → List S33 → List ByteArray → List ByteArray → Int
 | [], [], _, _ => 0
 | [], _ :: _, _, _ => -1
 | _ :: _, [], _, _ => 1
 | x :: xs, y :: ys, ss, ts => o2 (cS (ss.headD ByteArray.empty) (ts.headD ByteArray.empty)) (o2 (f x y) (cL f xs ys ss.tail ts.tail))
theorem cL_swap {f : S33 → S33 → Int} (hf : ∀ a b, f b a = - f a b) : ∀ xs ys ss ts, cL f ys xs ts ss = - cL f xs ys ss ts
 | [], [], _, _ => rfl
 | [], _ :: _, _, _ => rfl
 | _ :: _, [], _, _ => rfl
 | x :: xs, y :: ys, ss, ts => o2_swap (cB_swap _ _) (o2_swap (hf _ _) (cL_swap hf xs ys ss.tail ts.tail))
theorem cL_range {f : S33 → S33 → Int} (hf : ∀ a b, -1 ≤ f a b ∧ f a b ≤ 1) : ∀ xs ys ss ts, -1 ≤ cL f xs ys ss ts ∧ cL f xs ys ss ts ≤ 1
 | [], [], _, _ => by simp [cL]
 | [], _ :: _, _, _ => by simp [cL]
 | _ :: _, [], _, _ => by simp [cL]
 | x :: xs, y :: ys, ss, ts => by
  have h1 := cL_range hf xs ys ss.tail ts.tail
  have h2 := hf x y
  have h3 := (t3_cB (ss.headD ByteArray.empty).toList (ts.headD ByteArray.empty).toList (ts.headD ByteArray.empty).toList).1
  show -1 ≤ o2 (cS _ _) (o2 (f x y) (cL f xs ys ss.tail ts.tail)) ∧ o2 (cS _ _) (o2 (f x y) (cL f xs ys ss.tail ts.tail)) ≤ 1
  unfold cS o2
  (repeat' split) <;> omega
theorem t3_cL {f : S33 → S33 → Int} (hf : ∀ a b c, T3 (f a b) (f b c) (f a c)) : ∀ xs ys zs ss ts us, T3 (cL f xs ys ss ts) (cL f ys zs ts us) (cL f xs zs ss us)
 | [], [], [], _, _, _ => t3_zero
 | [], [], _ :: _, _, _, _ => by simp only [cL]; unfold T3; omega
 | [], _ :: _, [], _, _, _ => by simp only [cL]; unfold T3; omega
 | _ :: _, [], [], _, _, _ => by simp only [cL]; unfold T3; omega
 | x :: xs, [], z :: zs, ss, ts, us => by
  have h2 := cL_range (fun a b => (hf a b b).1) (x :: xs) (z :: zs) ss us
  simp only [cL] at h2 ⊢
  unfold T3
  omega
 | [], y :: ys, z :: zs, ss, ts, us => by
  have h2 := cL_range (fun a b => (hf a b b).1) (y :: ys) (z :: zs) ts us
  simp only [cL] at h2 ⊢
  unfold T3
  omega
 | x :: xs, y :: ys, [], ss, ts, us => by
  have h2 := cL_range (fun a b => (hf a b b).1) (x :: xs) (y :: ys) ss ts
  simp only [cL] at h2 ⊢
  unfold T3
  omega
 | x :: xs, y :: ys, z :: zs, ss, ts, us => t3_o2 (t3_cB _ _ _) (t3_o2 (hf _ _ _) (t3_cL hf xs ys zs ss.tail ts.tail us.tail))
def nk (a : S33) : List ByteArray := if a.f0 = 6 then a.f4 else []
def cV : Nat → S33 → S33 → Int
 | 0, _, _ => 0
 | n + 1, a, b => o2 (ord a.f0 b.f0) (o2 (ord (val a.f1.f0 a.f1.f1) (val b.f1.f0 b.f1.f1)) (o2 (cS a.f2 b.f2) (cL (cV n) a.f3 b.f3 (nk a) (nk b))))
theorem cV_swap : ∀ n a b, cV n b a = - cV n a b
 | 0, _, _ => rfl
 | n + 1, _, _ => o2_swap (ord_swap _ _) (o2_swap (ord_swap _ _) (o2_swap (cB_swap _ _) (cL_swap (cV_swap n) _ _ _ _)))
theorem t3_cV : ∀ n a b c, T3 (cV n a b) (cV n b c) (cV n a c)
 | 0, _, _, _ => t3_zero
 | n + 1, _, _, _ => t3_o2 (t3_ord _ _ _) (t3_o2 (t3_ord _ _ _) (t3_o2 (t3_cB _ _ _) (t3_cL (t3_cV n) _ _ _ _ _ _)))
end Go.Proofs.YtoajejdicfabmaaDoor.Co
