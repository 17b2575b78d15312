import Derived.Test.YtekkdhkcdjoooaaDoorEv
import Derived.Test.YtekkdhkcdjoooaaDoorTh
import Derived.Lib.Atoi
import Derived.Lib.CutLaws
import Derived.Test.YtekkdhkcdjoooaaDoorQ3
import Derived.Test.YtekkdhkcdjoooaaDoorQ4
import Derived.Test.YtekkdhkcdjoooaaDoorQ5
import Derived.Test.YtekkdhkcdjoooaaDoorQ6
import Derived.Test.YtekkdhkcdjoooaaDoorQ7
import Derived.Test.YtekkdhkcdjoooaaDoorQ8
import Derived.Test.YtekkdhkcdjoooaaDoorQ9
import Derived.Test.YtekkdhkcdjoooaaDoorQ10
import Derived.Test.YtekkdhkcdjoooaaDoorQ11
import Derived.Test.YtekkdhkcdjoooaaDoorQ12
import Derived.Test.YtekkdhkcdjoooaaDoorQ13
import Derived.Test.YtekkdhkcdjoooaaDoorQ14
import Derived.Test.YtekkdhkcdjoooaaDoorQ15
import Derived.Test.YtekkdhkcdjoooaaDoorQ18
import Derived.Test.YtekkdhkcdjoooaaDoorQ21
import Derived.Test.YtekkdhkcdjoooaaDoorQ22
import Derived.Test.YtekkdhkcdjoooaaDoorQ30
namespace Go.Proofs.YtekkdhkcdjoooaaDoor.Rd
set_option linter.unusedVariables false
set_option linter.unusedSimpArgs false
open Go.RowKit Go.Proofs.YtekkdhkcdjoooaaDoor.Q Go.Proofs.YtekkdhkcdjoooaaDoor.Evs Go.Proofs.YtekkdhkcdjoooaaDoor.Th Go.Proofs.YtekkdhkcdjoooaaDoorW.PrintWords Go.Proofs.YtekkdhkcdjoooaaDoorW.PrintLast
theorem dec_no {p : Prop} [Decidable p] (h : ¬ p) : some false = some (decide p) := by rw [decide_eq_false h]
theorem dec_yes {p : Prop} [Decidable p] (h : p) : some true = some (decide p) := by rw [decide_eq_true h]
theorem in_range (a b c : Int) : spec_l1In.f a b c = some (decide (b ≤ a ∧ a ≤ c)) := by
  unfold spec_l1In.f
  by_cases h1 : b ≤ a <;> by_cases h2 : a ≤ c <;> simp [h1, h2]
theorem spec_ok (m e : Int) : spec_DecOk.f m e = some (decide (Ok m e)) := by
  have h := tmod10 m
  unfold spec_DecOk.f
  by_cases h0 : m = 0
  · rw [if_pos h0]; subst h0
    by_cases he : e = 0
    · subst he; rfl
    · rw [beq_false_of_ne he]; exact dec_no (by unfold Ok; omega)
  · rw [if_neg h0, in_range, Option.bind_some]
    by_cases h1 : -99999999 ≤ m ∧ m ≤ 99999999
    · rw [if_pos (decide_eq_true h1), in_range, Option.bind_some]
      by_cases h2 : -8 ≤ e ∧ e ≤ 8
      · rw [if_pos (decide_eq_true h2)]
        by_cases h3 : m % 10 = 0
        · rw [h.2 h3]; exact dec_no (by unfold Ok; omega)
        · rw [bne_iff_ne.2 (fun z => h3 (h.1 z))]; exact dec_yes (by unfold Ok; omega)
      · rw [if_neg (fun z => h2 (of_decide_eq_true z))]; exact dec_no (by unfold Ok; omega)
    · rw [if_neg (fun z => h1 (of_decide_eq_true z))]; exact dec_no (by unfold Ok; omega)
theorem impl_ok (m e : Int) : impl_DecOk.f m e = some (decide (Ok m e)) := by
  have h := tmod10 m
  unfold impl_DecOk.f
  by_cases h1 : -99999999 ≤ m
  · by_cases h2 : m ≤ 99999999
    · by_cases h3 : -8 ≤ e
      · by_cases h4 : e ≤ 8
        · rw [if_pos h1, if_pos h2, if_pos h3, if_pos h4]
          by_cases h5 : m % 10 = 0
          · rw [if_pos (h.2 h5)]
            by_cases h6 : m = 0
            · subst h6
              by_cases he : e = 0
              · subst he; rfl
              · rw [beq_false_of_ne he]; exact dec_no (by unfold Ok; omega)
            · rw [beq_false_of_ne h6]; exact dec_no (by unfold Ok; omega)
          · rw [if_neg (fun z => h5 (h.1 z))]; exact dec_yes (by unfold Ok; omega)
        · rw [if_pos h1, if_pos h2, if_pos h3, if_neg h4]; exact dec_no (by unfold Ok; omega)
      · rw [if_pos h1, if_pos h2, if_neg h3]; exact dec_no (by unfold Ok; omega)
    · rw [if_pos h1, if_neg h2]; exact dec_no (by unfold Ok; omega)
  · rw [if_neg h1]; exact dec_no (by unfold Ok; omega)

theorem spec_new : Forms spec_l1New.f := forms_of (l0 := spec_l1New.l0) (okf := spec_DecOk.f) (fun _ _ _ => rfl) spec_ok (fun _ _ _ => rfl)
theorem impl_forms : Forms impl_form.f := forms_of (l0 := impl_form.l0) (okf := impl_DecOk.f) (fun _ _ _ => rfl) impl_ok (fun _ _ _ => rfl)
theorem form_ev {f : Nat → Int → Int → Option (Int × Int × Bool)} (hf : Forms f) (m e : Int) (h1 : -9223372036854775808 ≤ m) (h2 : m ≤ 9223372036854775807) (h3 : -64 ≤ e) (h4 : e ≤ 64) : ∃ r, Evn (fun k => f k m e) r ∧ Ans (val m e) r := by
  obtain ⟨r, h, ha⟩ := hf 20 m e (Nat.le_refl _) h1 h2 h3 h4
  refine ⟨r, ⟨20, fun k hk => ?_⟩, ha⟩
  obtain ⟨r', h', ha'⟩ := hf k m e hk h1 h2 h3 h4
  show f k m e = some r
  rw [h', ha'.uniq ha]
theorem wneg0 : wrap64 (-0) = 0 := by rw [w64 _ (by omega)]; rfl
theorem ans_neg {v a b : Int} {t : Bool} (h : Ans v (a, b, t)) : Ans (-v) (wrap64 (-a), b, t) := by
  rcases h with ⟨ht, hO, hv⟩ | ⟨hr, hn⟩
  · have hb : -99999999 ≤ a ∧ a ≤ 99999999 := by dsimp only at hO; unfold Ok at hO; omega
    rw [w64 _ (by omega)]
    refine .inl ⟨ht, ?_, ?_⟩
    · show Ok (-a) b
      dsimp only at hO
      unfold Ok at hO ⊢; omega
    · show val (-a) b = -v
      rw [val_neg, hv]
  · simp only [Prod.mk.injEq] at hr
    obtain ⟨rfl, rfl, rfl⟩ := hr
    refine .inr ⟨by rw [wneg0], fun p q hp hv => hn (-p) q (by unfold Ok at hp ⊢; omega) ?_⟩
    rw [val_neg, hv, Int.neg_neg]
/-! ### bytes -/
def L (s : ByteArray) : List UInt8 := s.data.toList
theorem L_len (s : ByteArray) : (L s).length = s.size := rfl
theorem bt_get (s : ByteArray) (i : Nat) (h : i < (L s).length) : bt s (i : Int) = (((L s)[i]).toNat : Int) := by
  have h2 : ((i : Int)).toNat < s.size := by rw [Int.toNat_natCast]; exact h
  rw [← bt_at s (i : Int) h2]
  rfl
def isF (b : UInt8) : Bool := decide (48 ≤ b.toNat) && decide (b.toNat ≤ 57)
def F (l : List UInt8) : Bool := l.all isF && !l.isEmpty
theorem w1 (i : Nat) (h : i ≤ 4611686018427387904) : wrap64 ((i : Int) + 1) = ((i + 1 : Nat) : Int) := by
  rw [w64 _ (by omega)]; omega
theorem dropc (l : List UInt8) (i d : Nat) (h : i + (d + 1) = l.length) : l.drop i = l[i]'(by omega) :: l.drop (i + 1) := List.drop_eq_getElem_cons (by omega)
theorem fig_impl (b : UInt8) : impl_isFigure.f (b.toNat : Int) = some (isF b) := by
  unfold impl_isFigure.f isF
  by_cases c : (b.toNat : Int) ≥ 48
  · rw [if_pos c, decide_eq_true (show 48 ≤ b.toNat by omega), Bool.true_and]
    congr 1
    exact decide_eq_decide.2 (by omega)
  · rw [if_neg c, decide_eq_false (show ¬ 48 ≤ b.toNat by omega), Bool.false_and]
theorem ne_nil (s : ByteArray) : (s.toList != ([] : List UInt8)) = !(L s).isEmpty := by
  rw [ByteArray.toList_eq]
  unfold L
  cases s.data.toList <;> rfl
theorem impl_l0 (s : ByteArray) (hz : s.size ≤ 4611686018427387904) : ∀ (d i : Nat), i + d = (L s).length → Evn (fun k => impl_figures.l0 k s (s.size : Int) (i : Int)) (((L s).drop i).all isF && !(L s).isEmpty)
  | 0, i, hd => Evn.step (g' := fun _ => some (!(L s).isEmpty)) (fun k => by rw [impl_figures.l0, if_neg (by rw [L_len] at hd; omega), ne_nil]) (by rw [List.drop_eq_nil_of_le (by omega)]; exact Evn.pure _)
  | d + 1, i, hd => by
    have ih := impl_l0 s hz d (i + 1) (by omega)
    have hl := L_len s
    have hi : i < (L s).length := by omega
    rw [dropc _ i d hd, List.all_cons]
    have key : ∀ k, impl_figures.l0 (k + 1) s (s.size : Int) (i : Int) = if isF (L s)[i] = true then impl_figures.l0 k s (s.size : Int) ((i + 1 : Nat) : Int) else some false := by
      intro k
      rw [impl_figures.l0, if_pos (by omega), if_pos (by omega), if_pos (by omega), bt_get s i hi, fig_impl, Option.bind_some, w1 i (by omega)]
    refine Evn.step key ?_
    by_cases c : isF (L s)[i] = true
    · rw [c, Bool.true_and]; exact Evn.ite_pos rfl ih
    · rw [Bool.eq_false_iff.2 c, Bool.false_and, Bool.false_and]; exact Evn.ite_neg (by decide) (Evn.pure _)
theorem impl_figs (s : ByteArray) (hz : s.size ≤ 4611686018427387904) : Evn (fun k => impl_figures.f k s) (F (L s)) := by
  have := impl_l0 s hz (L s).length 0 (by omega)
  rw [List.drop_zero] at this
  exact this
theorem spec_l0 (s : ByteArray) (hz : s.size ≤ 4611686018427387904) : ∀ (d i : Nat), i + d = (L s).length → Evn (fun k => spec_l1Figures.l0 k s (i : Int)) (((L s).drop i).all isF && !(L s).isEmpty)
  | 0, i, hd => by
    have hl := L_len s
    refine Evn.step (g' := fun _ => some (!(L s).isEmpty)) (fun k => ?_) (by rw [List.drop_eq_nil_of_le (by omega)]; exact Evn.pure _)
    rw [spec_l1Figures.l0, if_neg (by omega)]
    congr 1
    cases hc : L s with
    | nil => rw [hc] at hl; exact decide_eq_false (by simp at hl; omega)
    | cons b r => rw [hc] at hl; exact decide_eq_true (by simp at hl; omega)
  | d + 1, i, hd => by
    have ih := spec_l0 s hz d (i + 1) (by omega)
    have hl := L_len s
    have hi : i < (L s).length := by omega
    rw [dropc _ i d hd, List.all_cons]
    have key : ∀ k, spec_l1Figures.l0 (k + 1) s (i : Int) = if isF (L s)[i] = true then spec_l1Figures.l0 k s ((i + 1 : Nat) : Int) else some false := by
      intro k
      rw [spec_l1Figures.l0, if_pos (by omega), if_pos (by omega), bt_get s i hi, w1 i (by omega)]
      unfold isF
      by_cases c1 : ((L s)[i].toNat : Int) < 48
      · rw [if_pos c1, decide_eq_false (show ¬ 48 ≤ (L s)[i].toNat by omega), Bool.false_and, if_neg (by decide)]
      · by_cases c2 : ((L s)[i].toNat : Int) > 57
        · rw [if_neg c1, if_pos c2, decide_eq_false (show ¬ (L s)[i].toNat ≤ 57 by omega), Bool.and_false, if_neg (by decide)]
        · rw [if_neg c1, if_neg c2, decide_eq_true (show 48 ≤ (L s)[i].toNat by omega), decide_eq_true (show (L s)[i].toNat ≤ 57 by omega), Bool.true_and, if_pos rfl]
    refine Evn.step key ?_
    by_cases c : isF (L s)[i] = true
    · rw [c, Bool.true_and]; exact Evn.ite_pos rfl ih
    · rw [Bool.eq_false_iff.2 c, Bool.false_and, Bool.false_and]; exact Evn.ite_neg (by decide) (Evn.pure _)
theorem spec_figs (s : ByteArray) (hz : s.size ≤ 4611686018427387904) : Evn (fun k => spec_l1Figures.f k s) (F (L s)) := by
  have := spec_l0 s hz (L s).length 0 (by omega)
  rw [List.drop_zero] at this
  exact this
/-! ### the number that figures spell -/
def val10 (acc : Nat) : List UInt8 → Nat
  | [] => acc
  | b :: r => val10 (acc * 10 + (b.toNat - 48)) r
theorem decFrom_val : ∀ (l : List UInt8) (acc : Nat), l.all isF = true → Lib.decFrom acc l = some (val10 acc l)
  | [], acc, _ => rfl
  | b :: r, acc, h => by
    rw [List.all_cons, Bool.and_eq_true] at h
    have hb : 48 ≤ b.toNat ∧ b.toNat ≤ 57 := by
      have := h.1
      unfold isF at this
      simpa using this
    unfold Lib.decFrom Lib.digitVal
    rw [if_pos hb]
    exact decFrom_val r _ h.2
theorem atoi_val (l : List UInt8) (h : F l = true) : Lib.atoi l = some ((val10 0 l : Nat) : Int) := by
  unfold F at h
  rw [Bool.and_eq_true] at h
  cases l with
  | nil => simp at h
  | cons b r =>
    have hb : 48 ≤ b.toNat ∧ b.toNat ≤ 57 := by
      have := h.1
      rw [List.all_cons, Bool.and_eq_true] at this
      have := this.1
      unfold isF at this
      simpa using this
    have n1 : (b == 45) = false := by rw [beq_eq_false_iff_ne]; rintro rfl; exact absurd hb.1 (by decide)
    have n2 : (b == 43) = false := by rw [beq_eq_false_iff_ne]; rintro rfl; exact absurd hb.1 (by decide)
    simp only [Lib.atoi, n1, n2, Bool.false_eq_true, if_false]
    unfold Lib.decNat
    rw [if_neg (by simp), decFrom_val _ _ h.1]
    rfl
theorem num_l1 (p all : ByteArray) (r : Int × Int × Bool) (hp : p.size ≤ 17) (hF : (L all).all isF = true) (hz : all.size ≤ 17) :
    ∀ (d i n : Nat), i + d = (L all).length → (n + 1) * 10 ^ d ≤ 100000000000000000 → Evn (fun k => spec_l1New.f k ((val10 n ((L all).drop i) : Nat) : Int) (-(p.size : Int))) r → Evn (fun k => spec_l1Read.l1 k p (n : Int) all (i : Int)) r
  | 0, i, n, hd, hn, hr => by
    have hl := L_len all
    rw [List.drop_eq_nil_of_le (by omega)] at hr
    refine Evn.step (g' := fun k => (spec_l1New.f k (n : Int) (-(p.size : Int))).bind fun b => some (b.1, b.2.1, b.2.2)) (fun k => by rw [spec_l1Read.l1, if_neg (by omega), w64 (-(p.size : Int)) (by omega)]) ?_
    exact Evn.bind hr (Evn.pure _)
  | d + 1, i, n, hd, hn, hr => by
    have hl := L_len all
    have hi : i < (L all).length := by omega
    rw [dropc _ i d hd] at hr
    have hb : 48 ≤ ((L all)[i]).toNat ∧ ((L all)[i]).toNat ≤ 57 := by
      have := List.all_eq_true.1 hF _ (List.getElem_mem hi)
      unfold isF at this
      simpa using this
    have hpow : 1 ≤ 10 ^ d := Nat.pos_of_ne_zero (by simp)
    have hn1 : (n + 1) * 10 * 10 ^ d ≤ 100000000000000000 := by rw [Nat.mul_assoc, ← Nat.pow_succ']; exact hn
    have hn2 : (n + 1) * 10 ≤ 100000000000000000 := Nat.le_trans (Nat.le_mul_of_pos_right _ hpow) hn1
    have hn3 : ((n * 10 + (((L all)[i]).toNat - 48)) + 1) * 10 ^ d ≤ 100000000000000000 := Nat.le_trans (Nat.mul_le_mul_right _ (by omega)) hn1
    refine Evn.step (fun k => ?_) (num_l1 p all r hp hF hz d (i + 1) (n * 10 + (((L all)[i]).toNat - 48)) (by omega) hn3 hr)
    rw [spec_l1Read.l1, if_pos (by omega), if_pos (by omega), bt_get all i hi, w1 i (by omega)]
    have e1 : wrap64 ((n : Int) * 10) = (n : Int) * 10 := w64 _ (by omega)
    have e2 : wrap64 ((n : Int) * 10 + ((((L all)[i]).toNat : Int) - 48) % 256) = ((n * 10 + (((L all)[i]).toNat - 48) : Nat) : Int) := by rw [w64 _ (by omega)]; omega
    rw [e1, e2]
/-! ### whole and part -/
def first (w : ByteArray) : Int := bt w 0
/-- The two pieces are a number without a sign. -/
def good (w p : ByteArray) (pt : Bool) : Prop := F (L w) = true ∧ ¬ (w.size > 1 ∧ first w = 48) ∧ (pt = true → F (L p) = true) ∧ w.size + p.size ≤ 17
def V (w p : ByteArray) : Nat := val10 0 (L (w ++ p))
theorem L_app (w p : ByteArray) : L (w ++ p) = L w ++ L p := by unfold L; simp
theorem F_pos {l : List UInt8} (h : F l = true) : l ≠ [] := by
  rintro rfl
  simp [F] at h
theorem F_app {a b : List UInt8} (h : F a = true) (hb : b.all isF = true) : F (a ++ b) = true := by
  unfold F at h ⊢
  rw [Bool.and_eq_true] at h ⊢
  refine ⟨by rw [List.all_append, h.1, hb]; rfl, ?_⟩
  cases a with
  | nil => simp at h
  | cons x r => rfl
theorem val_bound : ∀ (l : List UInt8) (n : Nat), l.all isF = true → val10 n l + 1 ≤ (n + 1) * 10 ^ l.length
  | [], n, _ => by
    have e : (n + 1) * 10 ^ ([] : List UInt8).length = n + 1 := Nat.mul_one _
    rw [e]
    exact Nat.le_refl _
  | b :: r, n, h => by
    rw [List.all_cons, Bool.and_eq_true] at h
    have hb : 48 ≤ b.toNat ∧ b.toNat ≤ 57 := by
      have := h.1
      unfold isF at this
      simpa using this
    have ih := val_bound r (n * 10 + (b.toNat - 48)) h.2
    unfold val10
    refine Nat.le_trans ih ?_
    rw [List.length_cons, Nat.pow_succ', ← Nat.mul_assoc]
    exact Nat.mul_le_mul_right _ (by omega)
theorem V_bound (w p : ByteArray) (hw : (L w).all isF = true) (hp : (L p).all isF = true) (hs : w.size + p.size ≤ 17) : (V w p : Int) < 100000000000000000 := by
  have h := val_bound (L (w ++ p)) 0 (by rw [L_app, List.all_append, hw, hp]; rfl)
  have hl : (L (w ++ p)).length ≤ 17 := by rw [L_app, List.length_append, L_len, L_len]; exact hs
  have hp : 10 ^ (L (w ++ p)).length ≤ 100000000000000000 := Nat.le_trans (Nat.pow_le_pow_right (by decide) hl) (by decide : 10 ^ 17 ≤ 100000000000000000)
  unfold V
  omega
theorem spec_j2 (w p : ByteArray) (hw : F (L w) = true) (hp : (L p).all isF = true) (hs : w.size + p.size ≤ 17) : ∃ r, Evn (fun k => spec_l1Read.j2 k w p false) r ∧ Ans (val (V w p : Int) (-(p.size : Int))) r := by
  have hwa : (L w).all isF = true := by unfold F at hw; rw [Bool.and_eq_true] at hw; exact hw.1
  have hb := V_bound w p hwa hp hs
  obtain ⟨r, hr, ha⟩ := form_ev spec_new (V w p : Int) (-(p.size : Int)) (by omega) (by omega) (by omega) (by omega)
  refine ⟨r, ?_, ha⟩
  have hl : (L (w ++ p)).length ≤ 17 := by rw [L_app, List.length_append, L_len, L_len]; exact hs
  have hall : (L (w ++ p)).all isF = true := by rw [L_app, List.all_append, hwa, hp]; rfl
  refine Evn.step (g' := fun k => spec_l1Read.l1 k p ((0 : Nat) : Int) (w ++ p) ((0 : Nat) : Int)) (fun k => by rw [spec_l1Read.j2, if_neg (by decide), if_pos (by omega)]; rfl) ?_
  refine num_l1 p (w ++ p) r (by omega) hall (by rw [← L_len]; exact hl) (L (w ++ p)).length 0 0 (by omega) ?_ (by rw [List.drop_zero]; exact hr)
  rw [Nat.zero_add, Nat.one_mul]
  exact Nat.le_trans (Nat.pow_le_pow_right (by decide) hl) (by decide : 10 ^ 17 ≤ 100000000000000000)
theorem j2_no (w p : ByteArray) : Evn (fun k => spec_l1Read.j2 k w p true) (0, 0, false) :=
  Evn.step (g' := fun _ => some (0, 0, false)) (fun k => by rw [spec_l1Read.j2, if_pos rfl]) (Evn.pure _)
theorem spec_j1 (w p : ByteArray) (hzw : w.size ≤ 1048576) (hzp : p.size ≤ 1048576) (hp : (L p).all isF = true) :
    (F (L w) = true ∧ ¬ (w.size > 1 ∧ first w = 48) ∧ w.size + p.size ≤ 17 → ∃ r, Evn (fun k => spec_l1Read.j1 k w p) r ∧ Ans (val (V w p : Int) (-(p.size : Int))) r) ∧
    (¬ (F (L w) = true ∧ ¬ (w.size > 1 ∧ first w = 48) ∧ w.size + p.size ≤ 17) → Evn (fun k => spec_l1Read.j1 k w p) (0, 0, false)) := by
  have hf := spec_figs w (by omega)
  have key : ∀ k, spec_l1Read.j1 (k + 1) w p = (spec_l1Figures.f k w).bind fun t109 => (if t109 = true then (if (w.size : Int) > 1 then (if 0 < (w.size : Int) then (if (bt w 0) = 48 then (spec_l1Read.j2 k w p true) else (spec_l1Read.j2 k w p (decide (((w.size : Int) + (p.size : Int)) > 17)))) else (none)) else (spec_l1Read.j2 k w p (decide (((w.size : Int) + (p.size : Int)) > 17)))) else (spec_l1Read.j2 k w p true)) := by
    intro k
    rw [spec_l1Read.j1, w64 ((w.size : Int) + (p.size : Int)) (by omega)]
  have many : (w.size + p.size ≤ 17 → (decide (((w.size : Int) + (p.size : Int)) > 17)) = false) ∧ (¬ w.size + p.size ≤ 17 → (decide (((w.size : Int) + (p.size : Int)) > 17)) = true) := ⟨fun h => decide_eq_false (by omega), fun h => decide_eq_true (by omega)⟩
  constructor
  · rintro ⟨h1, h2, h3⟩
    obtain ⟨r, hr, ha⟩ := spec_j2 w p h1 hp h3
    refine ⟨r, Evn.step key (Evn.bind hf ?_), ha⟩
    rw [h1, many.1 h3]
    refine Evn.ite_pos rfl ?_
    by_cases c : (w.size : Int) > 1
    · exact Evn.ite_pos c (Evn.ite_pos (by omega) (Evn.ite_neg (fun h => h2 ⟨by omega, h⟩) hr))
    · exact Evn.ite_neg c hr
  · intro h
    refine Evn.step key (Evn.bind hf ?_)
    by_cases h1 : F (L w) = true
    · rw [h1]
      refine Evn.ite_pos rfl ?_
      by_cases c : (w.size : Int) > 1
      · refine Evn.ite_pos c (Evn.ite_pos (by omega) ?_)
        by_cases c2 : bt w 0 = 48
        · exact Evn.ite_pos c2 (j2_no w p)
        · rw [many.2 (fun h3 => h ⟨h1, fun z => c2 z.2, h3⟩)]
          exact Evn.ite_neg c2 (j2_no w p)
      · rw [many.2 (fun h3 => h ⟨h1, fun z => c (by omega), h3⟩)]
        exact Evn.ite_neg c (j2_no w p)
    · exact Evn.ite_neg h1 (j2_no w p)
/-! ### where the point is -/
theorem occ_dot (l : List UInt8) (j : Nat) : Lib.occAt l [46] j = decide (l[j]? = some 46) := by
  unfold Lib.occAt
  by_cases h : j < l.length
  · rw [List.drop_eq_getElem_cons h, List.getElem?_eq_getElem h]
    by_cases c : l[j] = 46
    · simp [List.isPrefixOf, c]
    · simp [List.isPrefixOf, c]
      exact fun z => c z.symm
  · rw [List.drop_eq_nil_of_le (by omega), List.getElem?_eq_none (by omega)]
    rfl
theorem bt46 (s : ByteArray) (i : Nat) (h : i < (L s).length) : (bt s (i : Int) = 46) ↔ (L s)[i]? = some 46 := by
  rw [bt_get s i h, List.getElem?_eq_getElem h, Option.some.injEq]
  constructor
  · intro z
    apply UInt8.toNat_inj.1
    show ((L s)[i]).toNat = 46
    omega
  · intro z
    rw [z]
    rfl
/-- What the specification reads of a text: the two pieces. -/
theorem spec_miss (s : ByteArray) (hz : s.size ≤ 1048576) (hn : ∀ j, j ≤ (L s).length → Lib.occAt (L s) [46] j = false) (r : Int × Int × Bool) (hr : Evn (fun k => spec_l1Read.j1 k s (⟨#[]⟩ : ByteArray)) r) :
    ∀ (d i : Nat), i + d = (L s).length → Evn (fun k => spec_l1Read.l0 k s s (⟨#[]⟩ : ByteArray) (i : Int)) r
  | 0, i, hd => by
    have hl := L_len s
    exact Evn.step (fun k => by rw [spec_l1Read.l0, if_neg (by omega)]) hr
  | d + 1, i, hd => by
    have hl := L_len s
    have hi : i < (L s).length := by omega
    have h0 := hn i (by omega)
    rw [occ_dot, decide_eq_false_iff_not] at h0
    refine Evn.step (fun k => ?_) (spec_miss s hz hn r hr d (i + 1) (by omega))
    rw [spec_l1Read.l0, if_pos (by omega), if_pos (by omega), if_neg (fun z => h0 ((bt46 s i hi).1 z)), w1 i (by omega)]
theorem spec_hit (s : ByteArray) (hz : s.size ≤ 1048576) (i0 : Nat) (h1 : Lib.occAt (L s) [46] i0 = true) (hn : ∀ j, j < i0 → Lib.occAt (L s) [46] j = false) (hi0 : i0 < (L s).length) (r : Int × Int × Bool)
    (hr : Evn (fun k => (spec_l1Figures.f k (s.extract (i0 + 1) s.size)).bind fun t108 => (if t108 = true then (spec_l1Read.j1 k (s.extract 0 i0) (s.extract (i0 + 1) s.size)) else (some (0, 0, false)))) r) :
    ∀ (d i : Nat), i + d = i0 → Evn (fun k => spec_l1Read.l0 k s s (⟨#[]⟩ : ByteArray) (i : Int)) r
  | 0, i, hd => by
    have hl := L_len s
    obtain rfl : i = i0 := by omega
    rw [occ_dot, decide_eq_true_eq] at h1
    refine Evn.step (fun k => ?_) hr
    rw [spec_l1Read.l0, if_pos (by omega), if_pos (by omega), if_pos ((bt46 s i hi0).2 h1), if_pos (by omega), w1 i (by omega), if_pos (by omega), if_pos (by omega), Int.toNat_natCast, Int.toNat_natCast]
  | d + 1, i, hd => by
    have hl := L_len s
    have hi : i < (L s).length := by omega
    have h0 := hn i (by omega)
    rw [occ_dot, decide_eq_false_iff_not] at h0
    refine Evn.step (fun k => ?_) (spec_hit s hz i0 h1 hn hi0 r hr d (i + 1) (by omega))
    rw [spec_l1Read.l0, if_pos (by omega), if_pos (by omega), if_neg (fun z => h0 ((bt46 s i hi).1 z)), w1 i (by omega)]
/-- A text without a sign: its pieces as strings.Cut gives them; the specification's answer. -/
theorem pieces (s : ByteArray) (hz : s.size ≤ 1048576) (l : List Int) : ∃ w p pt, strings_Cut.f s (⟨#[46]⟩ : ByteArray) l = some (w, p, pt) ∧ w.size ≤ 1048576 ∧ p.size ≤ 1048576 ∧ (pt = false → p = (⟨#[]⟩ : ByteArray)) ∧
    (good w p pt → ∃ r, Evn (fun k => spec_l1Read.f k s) r ∧ Ans (val (V w p : Int) (-(p.size : Int))) r) ∧ (¬ good w p pt → Evn (fun k => spec_l1Read.f k s) (0, 0, false)) := by
  have hl := L_len s
  have hcut : strings_Cut.f s (⟨#[46]⟩ : ByteArray) l = some (⟨(Lib.cut s.data.toList [46]).1.toArray⟩, ⟨(Lib.cut s.data.toList [46]).2.1.toArray⟩, (Lib.cut s.data.toList [46]).2.2) := by
    unfold strings_Cut.f
    rw [if_pos (by omega)]
  rcases Lib.index_spec (L s) [46] with ⟨h1, h2⟩ | ⟨i0, h1, h2, h3, h4⟩
  · have hc := Lib.cutB_miss s (⟨#[46]⟩ : ByteArray) h1
    refine ⟨s, ByteArray.empty, false, ?_, hz, by decide, fun _ => rfl, ?_, ?_⟩
    · rw [hcut]
      have e : (Lib.cut s.data.toList [46]) = (Lib.cut s.data.toList (⟨#[46]⟩ : ByteArray).data.toList) := rfl
      rw [e, hc.1, hc.2.1, hc.2.2]
    · rintro ⟨g1, g2, _, g4⟩
      obtain ⟨r, hr, ha⟩ := (spec_j1 s ByteArray.empty hz (by decide) rfl).1 ⟨g1, g2, g4⟩
      exact ⟨r, spec_miss s hz h2 r hr (L s).length 0 (by omega), ha⟩
    · intro hg
      have hr := (spec_j1 s ByteArray.empty hz (by decide) rfl).2 (fun z => hg ⟨z.1, z.2.1, (fun h => by cases h), z.2.2⟩)
      exact spec_miss s hz h2 _ hr (L s).length 0 (by omega)
  · have hi0 : i0 < (L s).length := by
      rcases Nat.lt_or_ge i0 (L s).length with h | h
      · exact h
      · rw [occ_dot, List.getElem?_eq_none h] at h3
        simp at h3
    have hc := Lib.cutB_hit s (⟨#[46]⟩ : ByteArray) i0 h1
    have e1 : (s.extract 0 i0).size ≤ 1048576 := by rw [ByteArray.size_extract]; omega
    have e2 : (s.extract (i0 + 1) s.size).size ≤ 1048576 := by rw [ByteArray.size_extract]; omega
    have hf := spec_figs (s.extract (i0 + 1) s.size) (by omega)
    refine ⟨s.extract 0 i0, s.extract (i0 + 1) s.size, true, ?_, e1, e2, (fun h => by cases h), ?_, ?_⟩
    · rw [hcut]
      have e : (Lib.cut s.data.toList [46]) = (Lib.cut s.data.toList (⟨#[46]⟩ : ByteArray).data.toList) := rfl
      rw [e, hc.1, hc.2.1, hc.2.2]
      rfl
    · rintro ⟨g1, g2, g3, g4⟩
      have hp := g3 rfl
      have hpa : (L (s.extract (i0 + 1) s.size)).all isF = true := by unfold F at hp; rw [Bool.and_eq_true] at hp; exact hp.1
      obtain ⟨r, hr, ha⟩ := (spec_j1 _ _ e1 e2 hpa).1 ⟨g1, g2, g4⟩
      refine ⟨r, spec_hit s hz i0 h3 h4 hi0 r (Evn.bind hf ?_) i0 0 (by omega), ha⟩
      rw [hp]
      exact Evn.ite_pos rfl hr
    · intro hg
      refine spec_hit s hz i0 h3 h4 hi0 _ (Evn.bind hf ?_) i0 0 (by omega)
      by_cases hp : F (L (s.extract (i0 + 1) s.size)) = true
      · have hpa : (L (s.extract (i0 + 1) s.size)).all isF = true := by unfold F at hp; rw [Bool.and_eq_true] at hp; exact hp.1
        exact Evn.ite_pos hp ((spec_j1 _ _ e1 e2 hpa).2 (fun z => hg ⟨z.1, z.2.1, fun _ => hp, z.2.2⟩))
      · exact Evn.ite_neg hp (Evn.pure _)
/-! ### the program -/
theorem atoi_ev (w p : ByteArray) (hw : F (L w) = true) (hp : (L p).all isF = true) (hs : w.size + p.size ≤ 17) : strconv_Atoi.f (w ++ p) = some (((V w p : Nat) : Int), none) := by
  have h := atoi_val (L (w ++ p)) (by rw [L_app]; exact F_app hw hp)
  have h2 : Lib.atoi (w ++ p).data.toList = some ((V w p : Nat) : Int) := h
  unfold strconv_Atoi.f
  rw [h2, if_pos ⟨by rw [ByteArray.size_append]; omega, rfl⟩]
  rfl
def sgn (m : Bool) (x : Int) : Int := if m = true then -x else x
theorem impl_j0_yes (m : Bool) (w p : ByteArray) (hw : F (L w) = true) (hp : (L p).all isF = true) (hs : w.size + p.size ≤ 17) : ∃ r, Evn (fun k => impl_DecRead.j0 k m w p false) r ∧ Ans (val (sgn m (V w p : Int)) (-(p.size : Int))) r := by
  have hwa : (L w).all isF = true := by unfold F at hw; rw [Bool.and_eq_true] at hw; exact hw.1
  have hb := V_bound w p hwa hp hs
  obtain ⟨r, hr, ha⟩ := form_ev impl_forms (sgn m (V w p : Int)) (-(p.size : Int)) (by unfold sgn; split <;> omega) (by unfold sgn; split <;> omega) (by omega) (by omega)
  refine ⟨r, ?_, ha⟩
  refine Evn.step (g' := fun k => (impl_form.f k (sgn m (V w p : Int)) (-(p.size : Int))).bind fun b => some (b.1, b.2.1, b.2.2)) (fun k => ?_) (Evn.bind hr (Evn.pure _))
  rw [impl_DecRead.j0, if_neg (by decide), if_pos (by omega), atoi_ev w p hw hp hs, Option.bind_some, w64 (-(p.size : Int)) (by omega)]
  dsimp only
  cases m with
  | true => rw [if_pos rfl, w64 (-(V w p : Int)) (by omega)]; rfl
  | false => rw [if_neg (by decide)]; rfl
theorem impl_j0_no (m : Bool) (w p : ByteArray) : Evn (fun k => impl_DecRead.j0 k m w p true) (0, 0, false) :=
  Evn.step (g' := fun _ => some (0, 0, false)) (fun k => by rw [impl_DecRead.j0, if_pos rfl]) (Evn.pure _)
theorem impl_ev (a rest : ByteArray) (m : Bool) (l : List Int) (hpre : strings_CutPrefix.f a (⟨#[45]⟩ : ByteArray) = some (rest, m)) (w p : ByteArray) (pt : Bool) (hcut : strings_Cut.f rest (⟨#[46]⟩ : ByteArray) l = some (w, p, pt))
    (hzw : w.size ≤ 1048576) (hzp : p.size ≤ 1048576) (hpe : pt = false → p = (⟨#[]⟩ : ByteArray)) :
    (good w p pt → ∃ r, Evn (fun k => impl_DecRead.f k a l) r ∧ Ans (val (sgn m (V w p : Int)) (-(p.size : Int))) r) ∧ (¬ good w p pt → Evn (fun k => impl_DecRead.f k a l) (0, 0, false)) := by
  have hfw := impl_figs w (by omega)
  have hfp := impl_figs p (by omega)
  have e : wrap64 ((w.size : Int) + (p.size : Int)) = (w.size : Int) + (p.size : Int) := w64 _ (by omega)
  have many : (w.size + p.size ≤ 17 → (decide (((w.size : Int) + (p.size : Int)) > 17)) = false) ∧ (¬ w.size + p.size ≤ 17 → (decide (((w.size : Int) + (p.size : Int)) > 17)) = true) := ⟨fun h => decide_eq_false (by omega), fun h => decide_eq_true (by omega)⟩
  have start : ∀ r, Evn (fun k => (impl_figures.f k w).bind fun t136 => (if t136 = true then (if 0 < (w.size : Int) then (if (bt w 0) = 48 then (if (w.size : Int) > 1 then (impl_DecRead.j0 k m w p true) else (if pt = true then ((impl_figures.f k p).bind fun t137 => (if t137 = true then (impl_DecRead.j0 k m w p (decide (((w.size : Int) + (p.size : Int)) > 17))) else (impl_DecRead.j0 k m w p true))) else (impl_DecRead.j0 k m w p (decide (((w.size : Int) + (p.size : Int)) > 17))))) else (if pt = true then ((impl_figures.f k p).bind fun t138 => (if t138 = true then (impl_DecRead.j0 k m w p (decide (((w.size : Int) + (p.size : Int)) > 17))) else (impl_DecRead.j0 k m w p true))) else (impl_DecRead.j0 k m w p (decide (((w.size : Int) + (p.size : Int)) > 17))))) else (none)) else (impl_DecRead.j0 k m w p true))) r → Evn (fun k => impl_DecRead.f k a l) r := by
    intro r h
    refine Evn.of (fun k => ?_) h
    unfold impl_DecRead.f
    rw [hpre, Option.bind_some]
    dsimp only
    rw [hcut, Option.bind_some]
    dsimp only
    rw [e]
  have wpos : F (L w) = true → 0 < (w.size : Int) := by
    intro h
    have := F_pos h
    have hl := L_len w
    have : 0 < (L w).length := List.length_pos_iff.2 this
    omega
  constructor
  · rintro ⟨g1, g2, g3, g4⟩
    have hpa : (L p).all isF = true := by
      cases pt with
      | true => have := g3 rfl; unfold F at this; rw [Bool.and_eq_true] at this; exact this.1
      | false => rw [hpe rfl]; rfl
    obtain ⟨r, hr, ha⟩ := impl_j0_yes m w p g1 hpa g4
    refine ⟨r, start r (Evn.bind hfw ?_), ha⟩
    rw [g1, many.1 g4]
    have tail : Evn (fun k => (if pt = true then ((impl_figures.f k p).bind fun t137 => (if t137 = true then (impl_DecRead.j0 k m w p false) else (impl_DecRead.j0 k m w p true))) else (impl_DecRead.j0 k m w p false))) r := by
      by_cases c : pt = true
      · refine Evn.ite_pos c (Evn.bind hfp ?_)
        rw [g3 c]
        exact Evn.ite_pos rfl hr
      · exact Evn.ite_neg c hr
    refine Evn.ite_pos rfl (Evn.ite_pos (wpos g1) ?_)
    by_cases c : bt w 0 = 48
    · exact Evn.ite_pos c (Evn.ite_neg (fun z => g2 ⟨by omega, c⟩) tail)
    · exact Evn.ite_neg c tail
  · intro hg
    refine start _ (Evn.bind hfw ?_)
    by_cases g1 : F (L w) = true
    · rw [g1]
      refine Evn.ite_pos rfl (Evn.ite_pos (wpos g1) ?_)
      have tail : ¬ (w.size > 1 ∧ first w = 48) → Evn (fun k => (if pt = true then ((impl_figures.f k p).bind fun t137 => (if t137 = true then (impl_DecRead.j0 k m w p (decide (((w.size : Int) + (p.size : Int)) > 17))) else (impl_DecRead.j0 k m w p true))) else (impl_DecRead.j0 k m w p (decide (((w.size : Int) + (p.size : Int)) > 17))))) (0, 0, false) := by
        intro g2
        by_cases c : pt = true
        · refine Evn.ite_pos c (Evn.bind hfp ?_)
          by_cases g3 : F (L p) = true
          · rw [g3, many.2 (fun g4 => hg ⟨g1, g2, fun _ => g3, g4⟩)]
            exact Evn.ite_pos rfl (impl_j0_no m w p)
          · exact Evn.ite_neg g3 (impl_j0_no m w p)
        · rw [many.2 (fun g4 => hg ⟨g1, g2, fun z => absurd z c, g4⟩)]
          exact Evn.ite_neg c (impl_j0_no m w p)
      by_cases c : bt w 0 = 48
      · refine Evn.ite_pos c ?_
        by_cases c2 : (w.size : Int) > 1
        · exact Evn.ite_pos c2 (impl_j0_no m w p)
        · exact Evn.ite_neg c2 (tail (fun z => c2 (by omega)))
      · exact Evn.ite_neg c (tail (fun z => c z.2))
    · exact Evn.ite_neg g1 (impl_j0_no m w p)
/-! ### the law -/
theorem prefix_yes (a : ByteArray) (h0 : 0 < (L a).length) (h : bt a 0 = 45) : strings_CutPrefix.f a (⟨#[45]⟩ : ByteArray) = some (a.extract 1 a.size, true) := by
  have hb : (L a)[0] = 45 := by
    have := bt_get a 0 h0
    apply UInt8.toNat_inj.1
    show ((L a)[0]).toNat = 45
    rw [show ((0 : Nat) : Int) = 0 from rfl, h] at this
    omega
  have hd : L a = 45 :: (L a).drop 1 := by
    have := List.drop_eq_getElem_cons h0
    rw [List.drop_zero, hb] at this
    exact this
  have hp : Lib.hasPrefix a.data.toList [45] = true := by
    show Lib.hasPrefix (L a) [45] = true
    rw [hd]
    simp [Lib.hasPrefix, List.isPrefixOf]
  unfold strings_CutPrefix.f
  show some ((⟨(Lib.trimPrefix a.data.toList [45]).toArray⟩ : ByteArray), Lib.hasPrefix a.data.toList [45]) = _
  unfold Lib.trimPrefix
  rw [hp, if_pos rfl]
  congr 2
  rw [Lib.extract_eq]
  congr 2
  show (L a).drop 1 = List.take (a.size - 1) ((L a).drop 1)
  rw [List.take_of_length_le (by rw [List.length_drop, L_len]; exact Nat.le_refl _)]
theorem prefix_no (a : ByteArray) (h : ¬ (0 < (L a).length ∧ bt a 0 = 45)) : strings_CutPrefix.f a (⟨#[45]⟩ : ByteArray) = some (a, false) := by
  have hp : Lib.hasPrefix a.data.toList [45] = false := by
    show Lib.hasPrefix (L a) [45] = false
    cases hc : L a with
    | nil => rfl
    | cons b r =>
      have h0 : 0 < (L a).length := by rw [hc]; simp
      have hb := bt_get a 0 h0
      have hne : b ≠ 45 := by
        rintro rfl
        refine h ⟨h0, ?_⟩
        have : (L a)[0] = 45 := by simp [hc]
        rw [this] at hb
        exact hb
      simp [Lib.hasPrefix, List.isPrefixOf]
      exact fun z => hne z.symm
  unfold strings_CutPrefix.f
  show some ((⟨(Lib.trimPrefix a.data.toList [45]).toArray⟩ : ByteArray), Lib.hasPrefix a.data.toList [45]) = _
  unfold Lib.trimPrefix
  rw [hp, if_neg (by decide)]
theorem both (a : ByteArray) (hz : a.size ≤ 1048576) (l : List Int) : ∃ r, Evn (fun k => spec_DecRead.f k a) r ∧ Evn (fun k => impl_DecRead.f k a l) r := by
  have hl := L_len a
  by_cases c : 0 < (L a).length ∧ bt a 0 = 45
  · have hx : (a.extract 1 a.size).size ≤ 1048576 := by rw [ByteArray.size_extract]; omega
    obtain ⟨w, p, pt, hcut, hzw, hzp, hpe, hy, hn⟩ := pieces (a.extract 1 a.size) hx l
    have hi := impl_ev a _ true l (prefix_yes a c.1 c.2) w p pt hcut hzw hzp hpe
    have sp : ∀ x y t, Evn (fun k => spec_l1Read.f k (a.extract 1 a.size)) (x, y, t) → Evn (fun k => spec_DecRead.f k a) (wrap64 (-x), y, t) := by
      intro x y t h
      refine Evn.step (g' := fun k => (spec_l1Read.f k (a.extract 1 a.size)).bind fun bt116 => ((spec_l1Neg.f bt116.1 bt116.2.1).bind fun bt120 => (some (bt120.1, bt120.2, bt116.2.2)))) (fun k => ?_) (Evn.bind h (Evn.pure _))
      unfold spec_DecRead.f
      rw [if_pos (by omega), if_pos (by omega), c.2, show ((45 : Int) == 45) = true from rfl, spec_DecRead.j0, if_pos rfl, if_pos (by omega)]
    by_cases g : good w p pt
    · obtain ⟨⟨x, y, t⟩, hr, ha⟩ := hy g
      obtain ⟨r2, hr2, ha2⟩ := hi.1 g
      have e := ans_neg ha
      have e2 : val (sgn true (V w p : Int)) (-(p.size : Int)) = - val (V w p : Int) (-(p.size : Int)) := by unfold sgn; rw [if_pos rfl, val_neg]
      rw [e2] at ha2
      refine ⟨_, sp x y t hr, ?_⟩
      rw [e.uniq ha2]
      exact hr2
    · exact ⟨_, sp 0 0 false (hn g), by rw [wneg0]; exact hi.2 g⟩
  · obtain ⟨w, p, pt, hcut, hzw, hzp, hpe, hy, hn⟩ := pieces a hz l
    have hi := impl_ev a _ false l (prefix_no a c) w p pt hcut hzw hzp hpe
    have sp : ∀ r, Evn (fun k => spec_l1Read.f k a) r → Evn (fun k => spec_DecRead.f k a) r := by
      intro r h
      refine Evn.step (g' := fun k => (spec_l1Read.f k a).bind fun b => some (b.1, b.2.1, b.2.2)) (fun k => ?_) (Evn.bind h (Evn.pure _))
      unfold spec_DecRead.f
      by_cases c1 : (a.size : Int) > 0
      · have hne : (bt a 0 == 45) = false := by rw [beq_eq_false_iff_ne]; exact fun z => c ⟨by omega, z⟩
        rw [if_pos c1, if_pos (by omega), hne, spec_DecRead.j0, if_neg (by decide)]
      · rw [if_neg c1, spec_DecRead.j0, if_neg (by decide)]
    by_cases g : good w p pt
    · obtain ⟨r, hr, ha⟩ := hy g
      obtain ⟨r2, hr2, ha2⟩ := hi.1 g
      have e2 : sgn false (V w p : Int) = (V w p : Int) := rfl
      rw [e2] at ha2
      refine ⟨_, sp r hr, ?_⟩
      rw [ha.uniq ha2]
      exact hr2
    · exact ⟨_, sp _ (hn g), hi.2 g⟩
theorem law (a : ByteArray) (l : List Int) : Evn (fun k => laws_FnExactDecRead.f k a l) true := by
  unfold laws_FnExactDecRead.f
  by_cases c : (a.size : Int) > 1048576
  · exact Evn.ite_pos c (Evn.pure _)
  obtain ⟨⟨x, y, t⟩, hs, hi⟩ := both a (by omega) l
  refine Evn.ite_neg c (Evn.bind hs (Evn.bind hi (Evn.bind (a := true) ?_ (Evn.ite_pos rfl (Evn.ite_neg (by simp) (Evn.pure _))))))
  exact Evn.of (fun _ => by unfold laws_eqDec.f; rw [if_pos rfl, if_pos rfl]) (Evn.pure _)
end Go.Proofs.YtekkdhkcdjoooaaDoor.Rd
