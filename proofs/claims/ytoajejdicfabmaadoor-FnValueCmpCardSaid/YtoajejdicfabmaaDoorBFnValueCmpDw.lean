import Derived.Test.YtoajejdicfabmaaDoorBFnValueCmpVo
namespace Go.Proofs.YtoajejdicfabmaaDoor.Dw
set_option linter.unusedVariables false
set_option linter.unusedSimpArgs false
open Go.RowKit Go.Proofs.YtoajejdicfabmaaDoor.Q Go.Proofs.YtoajejdicfabmaaDoor.Th Go.Proofs.YtoajejdicfabmaaDoor.Evs Go.Proofs.YtoajejdicfabmaaDoor.Tv Go.Proofs.YtoajejdicfabmaaDoorW.PrintWords Go.Proofs.YtoajejdicfabmaaDoorW.PrintLast
theorem spec_new : Forms spec_l1New.f := forms_of (l0 := spec_l1New.l0) (okf := spec_DecOk.f) (fun _ _ _ => rfl) Vo.spec_ok (fun _ _ _ => rfl)
theorem xor_low (a b : Int) (ha : 0 ≤ a) (hb : 0 ≤ b) (ha2 : a < 4611686018427387904) (hb2 : b < 4611686018427387904) : 0 ≤ Go.bits .xor .i64 a b := by
 obtain ⟨x, rfl⟩ := Int.eq_ofNat_of_zero_le ha
 obtain ⟨y, rfl⟩ := Int.eq_ofNat_of_zero_le hb
 have hx : x < 2 ^ 62 := by omega
 have hy : y < 2 ^ 62 := by omega
 have h := Nat.xor_lt_two_pow hx hy
 have hx' : x % 2 ^ IntKind.i64.bits = x := Nat.mod_eq_of_lt (by simp [IntKind.bits]; omega)
 have hy' : y % 2 ^ IntKind.i64.bits = y := Nat.mod_eq_of_lt (by simp [IntKind.bits]; omega)
 simp only [Go.bits, BitVec.ofInt_natCast, BitVec.toNat_xor, BitVec.toNat_ofNat, hx', hy']
 rw [IntKind.wrap_i64]
 omega
def Bytes (l : List Int) : Prop := ∀ i, 0 ≤ rd l i ∧ rd l i ≤ 255
theorem bytes_of {l : List Int} (h : ∀ x ∈ l, (Lit.int .u8 x).wf = true) : Bytes l := by
 intro i
 unfold rd
 by_cases hi : i.toNat < l.length
 ·have := h _ (List.getElem_mem hi)
  simp [Lit.wf, IntKind.min, IntKind.max, IntKind.signed, IntKind.bits] at this
  simp [List.getD_eq_getElem?_getD, List.getElem?_eq_getElem hi]
  omega
 ·rw [List.getD_eq_getElem?_getD, List.getElem?_eq_none (by omega)]; simp
theorem tmod_low {x n : Int} (hx : 0 ≤ x) (hn : 0 < n) : 0 ≤ Int.tmod x n ∧ Int.tmod x n < n := by
 rw [Int.tmod_eq_emod_of_nonneg hx]
 exact ⟨Int.emod_nonneg _ (by omega), Int.emod_lt_of_pos _ hn⟩
theorem pick (k : Nat) (l : List Int) (p n : Int) (hl : Bytes l) (hlen : l.length ≤ 2000) (hp : 0 ≤ p) (hp2 : p ≤ 1000000) :
  ∃ v, spec_l1Rd_pick.f (k + 1) l p n = some (v, p + 1) ∧ (1 ≤ n → 0 ≤ v ∧ v < n) ∧ (n < 1 → v = 0) := by
 unfold spec_l1Rd_pick.f
 rw [wrap64_id (x := p + 1) (by omega) (by omega)]
 by_cases hn : n < 1
 ·rw [if_pos hn, spec_l1Rd_pick.j0, if_pos rfl]; exact ⟨0, rfl, by omega, fun _ => rfl⟩
 rw [if_neg hn]
 by_cases h0 : (l.length : Int) = 0
 ·rw [spec_l1Rd_pick.j0, if_pos (by rw [h0]; rfl)]; exact ⟨0, rfl, by omega, fun _ => rfl⟩
 rw [spec_l1Rd_pick.j0, if_neg (by rw [beq_false_of_ne h0]; decide), show p + 1 - 1 = p by omega, wrap64_id (x := p) (by omega) (by omega)]
 by_cases h1 : p < (l.length : Int)
 ·rw [if_pos h1, if_pos hp, if_neg (by omega)]
  have hb := hl p
  rw [wrap64_id (by omega) (by omega)]
  have := tmod_low (x := rd l p) (n := n) (by omega) (by omega)
  exact ⟨_, rfl, fun _ => this, by omega⟩
 ·have t1 := tmod_low (x := p) (n := (l.length : Int)) hp (by omega)
  rw [if_neg h1, if_neg h0, if_pos t1.1, if_pos t1.2, wrap64_id (x := p * 7) (by omega) (by omega), wrap64_id (x := p * 7 + 3) (by omega) (by omega)]
  have t2 := tmod_low (x := p * 7 + 3) (n := (l.length : Int)) (by omega) (by omega)
  rw [if_pos t2.1, if_pos t2.2, if_neg (by omega)]
  have b1 := hl (Int.tmod p l.length)
  have b2 := hl (Int.tmod (p * 7 + 3) l.length)
  have t3 : 0 ≤ Int.tdiv p l.length ∧ Int.tdiv p l.length ≤ p := by
   rw [Int.tdiv_eq_ediv_of_nonneg hp]; exact ⟨Int.ediv_nonneg hp (by omega), Int.ediv_le_self _ hp⟩
  generalize rd l (Int.tmod p l.length) = y1 at *
  generalize rd l (Int.tmod (p * 7 + 3) l.length) = y2 at *
  generalize Int.tdiv p l.length = y3 at *
  rw [wrap64_id (x := y1) (by omega) (by omega), wrap64_id (x := y2) (by omega) (by omega), wrap64_id (x := y3) (by omega) (by omega), wrap64_id (x := y1 * 131) (by omega) (by omega), wrap64_id (x := y2 * 1117) (by omega) (by omega), wrap64_id (x := p * 29) (by omega) (by omega), wrap64_id (x := y3 * 53) (by omega) (by omega),
   wrap64_id (x := y1 * 131 + y2 * 1117) (by omega) (by omega), wrap64_id (x := y1 * 131 + y2 * 1117 + p * 29) (by omega) (by omega), wrap64_id (x := y1 * 131 + y2 * 1117 + p * 29 + y3 * 53) (by omega) (by omega), Int.tdiv_eq_ediv_of_nonneg (by omega)]
  generalize hz : y1 * 131 + y2 * 1117 + p * 29 + y3 * 53 = z
  rw [wrap64_id (x := z / 64) (by omega) (by omega)]
  have := tmod_low (x := Go.bits .xor .i64 z (z / 64)) (n := n) (xor_low _ _ (by omega) (by omega) (by omega) (by omega)) (by omega)
  exact ⟨_, rfl, fun _ => this, by omega⟩
theorem one (k : Nat) (l : List Int) (p : Int) (xs : List Int) (hl : Bytes l) (hlen : l.length ≤ 2000) (hp : 0 ≤ p) (hp2 : p ≤ 1000000) (hx : 1 ≤ xs.length) :
  ∃ v, spec_l1Rd_one.f (k + 1) l p xs = some (v, p + 1) ∧ v ∈ xs := by
 unfold spec_l1Rd_one.f
 obtain ⟨v, hv, h1, _⟩ := pick k l p (xs.length : Int) hl hlen hp hp2
 have h2 := h1 (by omega)
 rw [hv, Option.bind_some, if_pos h2.1, if_pos h2.2]
 refine ⟨_, rfl, ?_⟩
 unfold rd
 rw [List.getD_eq_getElem?_getD, List.getElem?_eq_getElem (show v.toNat < xs.length by omega)]
 exact List.getElem_mem _
theorem opened (l : List Int) (hl : Bytes l) : ∃ m, spec_l1Open.f l = some (m, 0) ∧ Bytes m ∧ m.length ≤ 2000 := by
 unfold spec_l1Open.f
 by_cases h : (l.length : Int) > 2000
 ·rw [if_pos h, if_pos (by omega)]
  refine ⟨_, rfl, ?_, by simp; omega⟩
  intro i
  unfold rd
  by_cases hi : i.toNat < 2000
  ·have := hl i
   unfold rd at this
   simpa [List.getD_eq_getElem?_getD, List.getElem?_take, hi] using this
  ·simp [List.getD_eq_getElem?_getD, List.getElem?_take, hi]
 ·rw [if_neg h]; exact ⟨_, rfl, hl, by omega⟩
theorem mem7 {v a b c d e f g : Int} (h : v ∈ [a, b, c, d, e, f, g]) : v = a ∨ v = b ∨ v = c ∨ v = d ∨ v = e ∨ v = f ∨ v = g := by simpa using h
theorem dec (k : Nat) (hk : 30 ≤ k) (l : List Int) (p : Int) (hl : Bytes l) (hlen : l.length ≤ 2000) (hp : 0 ≤ p) (hp2 : p ≤ 900000) :
  ∃ m e, spec_l14Dec.f k l p = some (m, e, p + 6) ∧ Ok m e := by
 obtain ⟨k, rfl⟩ : ∃ m, k = m + 1 := ⟨k - 1, by omega⟩
 unfold spec_l14Dec.f
 obtain ⟨v1, h1, b1, _⟩ := pick k l p 20 hl hlen hp (by omega)
 obtain ⟨v2, h2, b2, _⟩ := pick k l (p + 1) 256 hl hlen (by omega) (by omega)
 obtain ⟨v3, h3, b3, _⟩ := pick k l (p + 1 + 1) 256 hl hlen (by omega) (by omega)
 obtain ⟨v4, h4, b4, _⟩ := pick k l (p + 1 + 1 + 1) 256 hl hlen (by omega) (by omega)
 have b1 := b1 (by decide)
 have b2 := b2 (by decide)
 have b3 := b3 (by decide)
 have b4 := b4 (by decide)
 rw [h1, Option.bind_some, h2, Option.bind_some, h3, Option.bind_some, h4, Option.bind_some]
 dsimp only
 rw [wrap64_id (x := v2 * 256) (by omega) (by omega), wrap64_id (x := v2 * 256 + v3) (by omega) (by omega), wrap64_id (x := -v4) (by omega) (by omega)]
 obtain ⟨m, h5, b5⟩ := one k l (p + 1 + 1 + 1 + 1) [v1, v2 * 256 + v3, 99999999, 0, -v4, 25, -99999999] hl hlen (by omega) (by omega) (by simp)
 obtain ⟨e, h6, b6⟩ := one k l (p + 1 + 1 + 1 + 1 + 1) [0, 0, -1, -2, 2, -8, 8] hl hlen (by omega) (by omega) (by simp)
 rw [h5, Option.bind_some, h6, Option.bind_some]
 dsimp only
 have b5 := mem7 b5
 have b6 := mem7 b6
 obtain ⟨⟨r1, r2, r3⟩, hr, hA⟩ := spec_new (k + 1) m e (by omega) (by omega) (by omega) (by omega) (by omega)
 rw [hr, Option.bind_some]
 have e6 : p + 1 + 1 + 1 + 1 + 1 + 1 = p + 6 := by omega
 rw [e6]
 cases r3 with
 | true => exact ⟨r1, r2, rfl, hA.form⟩
 | false => exact ⟨1, 0, rfl, by unfold Ok; omega⟩
theorem spec_new_at {k : Nat} {m e : Int} {r : Int × Int × Bool} (hk : 20 ≤ k) (h : spec_l1New.f 20 m e = some r) : spec_l1New.f k m e = some r := by
 have hm : ∀ d, spec_l1New.f (20 + d) m e = some r := fun d => by
  induction d with
  | zero => exact h
  | succ d ih => exact spec_l1New.mono m e (20 + d) r ih
 obtain ⟨d, rfl⟩ : ∃ d, k = 20 + d := ⟨k - 20, by omega⟩
 exact hm d
theorem pick_k (k : Nat) (l : List Int) (p n : Int) : spec_l1Rd_pick.f (k + 1) l p n = spec_l1Rd_pick.f 1 l p n := by
 simp only [spec_l1Rd_pick.f, spec_l1Rd_pick.j0]
theorem one_k (k : Nat) (l : List Int) (p : Int) (xs : List Int) : spec_l1Rd_one.f (k + 1) l p xs = spec_l1Rd_one.f 1 l p xs := by
 simp only [spec_l1Rd_one.f, pick_k k]
theorem evn_k {α : Type} {f : Nat → Option α} {r : α} (hk : ∀ k, f (k + 1) = f 1) (h : f 1 = some r) : Evn f r := by
 refine ⟨1, fun k hk' => ?_⟩
 obtain ⟨j, rfl⟩ : ∃ j, k = j + 1 := ⟨k - 1, by omega⟩
 rw [hk, h]
theorem pick_ev {l : List Int} (hl : Bytes l) (hlen : l.length ≤ 2000) (p n : Int) (hp : 0 ≤ p) (hp2 : p ≤ 1000000) (hn : 1 ≤ n) :
  ∃ v, Evn (fun k => spec_l1Rd_pick.f k l p n) (v, p + 1) ∧ 0 ≤ v ∧ v < n := by
 obtain ⟨v, h, h1, _⟩ := pick 0 l p n hl hlen hp hp2
 exact ⟨v, evn_k (fun k => pick_k k l p n) h, h1 hn⟩
theorem one_ev {l : List Int} (hl : Bytes l) (hlen : l.length ≤ 2000) (p : Int) (xs : List Int) (hp : 0 ≤ p) (hp2 : p ≤ 1000000) (hx : 1 ≤ xs.length) :
  ∃ v, Evn (fun k => spec_l1Rd_one.f k l p xs) (v, p + 1) ∧ v ∈ xs := by
 obtain ⟨v, h, h1⟩ := one 0 l p xs hl hlen hp hp2 hx
 exact ⟨v, evn_k (fun k => one_k k l p xs) h, h1⟩
theorem of_ev {l : List Int} (hl : Bytes l) (hlen : l.length ≤ 2000) (p : Int) (xs : List ByteArray) (hp : 0 ≤ p) (hp2 : p ≤ 1000000) (hx : 1 ≤ xs.length) (hx2 : xs.length ≤ 1000) :
  ∃ s, Evn (fun k => spec_l1Rd_of.f k l p xs) (s, p + 1) ∧ s ∈ xs := by
 obtain ⟨v, h, h1, h2⟩ := pick_ev hl hlen p (xs.length : Int) hp hp2 (by omega)
 obtain ⟨i, rfl⟩ := Int.eq_ofNat_of_zero_le h1
 have hi : i < xs.length := by omega
 refine ⟨xs[i], ?_, List.getElem_mem hi⟩
 unfold spec_l1Rd_of.f
 refine Evn.bind h (Evn.ite_pos h1 (Evn.ite_pos h2 ?_))
 show Evn (fun _ => some (xs.getD ((i : Int).toNat) ByteArray.empty, p + 1)) _
 rw [getD_nat xs i _ hi]
 exact Evn.pure _
theorem dec_ev {l : List Int} (hl : Bytes l) (hlen : l.length ≤ 2000) (p : Int) (hp : 0 ≤ p) (hp2 : p ≤ 900000) :
  ∃ m e, Evn (fun k => spec_l14Dec.f k l p) (m, e, p + 6) ∧ Ok m e := by
 obtain ⟨v1, h1, b1⟩ := pick_ev hl hlen p 20 hp (by omega) (by omega)
 obtain ⟨v2, h2, b2⟩ := pick_ev hl hlen (p + 1) 256 (by omega) (by omega) (by omega)
 obtain ⟨v3, h3, b3⟩ := pick_ev hl hlen (p + 1 + 1) 256 (by omega) (by omega) (by omega)
 obtain ⟨v4, h4, b4⟩ := pick_ev hl hlen (p + 1 + 1 + 1) 256 (by omega) (by omega) (by omega)
 obtain ⟨m, h5, b5⟩ := one_ev hl hlen (p + 1 + 1 + 1 + 1) [v1, v2 * 256 + v3, 99999999, 0, -v4, 25, -99999999] (by omega) (by omega) (by simp)
 obtain ⟨e, h6, b6⟩ := one_ev hl hlen (p + 1 + 1 + 1 + 1 + 1) [0, 0, -1, -2, 2, -8, 8] (by omega) (by omega) (by simp)
 have b5 := mem7 b5
 have b6 := mem7 b6
 have hN : ∃ r, Evn (fun k => spec_l1New.f k m e) r ∧ (r.2.2 = true → Ok r.1 r.2.1) := by
  obtain ⟨⟨r1, r2, r3⟩, hr, hA⟩ := spec_new 20 m e (by omega) (by omega) (by omega) (by omega) (by omega)
  refine ⟨(r1, r2, r3), ⟨20, fun k hk => ?_⟩, fun h => ?_⟩
  ·exact spec_new_at hk hr
  ·cases h; exact hA.form
 obtain ⟨⟨r1, r2, r3⟩, hr, hO⟩ := hN
 have e6 : p + 1 + 1 + 1 + 1 + 1 + 1 = p + 6 := by omega
 rw [e6] at h6
 unfold spec_l14Dec.f
 have w1 : wrap64 (v2 * 256) = v2 * 256 := wrap64_id (by omega) (by omega)
 have w2 : wrap64 (v2 * 256 + v3) = v2 * 256 + v3 := wrap64_id (by omega) (by omega)
 have w3 : wrap64 (-v4) = -v4 := wrap64_id (by omega) (by omega)
 cases r3 with
 | true =>
  refine ⟨r1, r2, Evn.bind h1 (Evn.bind h2 (Evn.bind h3 (Evn.bind h4 ?_))), hO rfl⟩
  dsimp only
  rw [w1, w2, w3]
  exact Evn.bind h5 (Evn.bind h6 (Evn.bind hr (Evn.ite_pos rfl (Evn.pure _))))
 | false =>
  refine ⟨1, 0, Evn.bind h1 (Evn.bind h2 (Evn.bind h3 (Evn.bind h4 ?_))), by unfold Ok; omega⟩
  dsimp only
  rw [w1, w2, w3]
  exact Evn.bind h5 (Evn.bind h6 (Evn.bind hr (Evn.ite_neg (by simp) (Evn.pure _))))
theorem bytes_l0 {l : List Int} (hl : Bytes l) (hlen : l.length ≤ 2000) : ∀ (n : Nat) (xs : List Int) (p : Int), xs.length + n ≤ 100 → 0 ≤ p → p + n ≤ 900000 →
  ∃ ys, Evn (fun k => spec_l14Bytes.l0 k xs (n : Int) l p) (strOfNums ys, p + n) ∧ ys.length = xs.length + n
 | 0, xs, p, _, _, _ => ⟨xs, Evn.step (g' := fun _ => some (strOfNums xs, p)) (fun k => by rw [spec_l14Bytes.l0, if_neg (by omega)]) (by rw [show p + ((0 : Nat) : Int) = p by omega]; exact Evn.pure _), by omega⟩
 | n + 1, xs, p, h, hp, hp2 => by
  obtain ⟨v, hv, _⟩ := one_ev hl hlen p [97, 98, 122, 32, 10, 34, 92, 0, 255, 127, 120, 49, 200, 9] hp (by omega) (by simp)
  obtain ⟨ys, ih, hy⟩ := bytes_l0 hl hlen n (xs ++ [v % 256]) (p + 1) (by simp; omega) (by omega) (by omega)
  refine ⟨ys, Evn.step (fun k => by rw [spec_l14Bytes.l0, if_pos (by omega)]) (Evn.bind hv (Evn.ite_pos (show xs.length < 140737488355328 by omega) ?_)), by simp at hy; omega⟩
  rw [show wrap64 (((n + 1 : Nat) : Int) - 1) = (n : Int) by rw [wrap64_id (by omega) (by omega)]; omega, show p + ((n + 1 : Nat) : Int) = p + 1 + n by omega]
  exact ih
theorem bytes_ev {l : List Int} (hl : Bytes l) (hlen : l.length ≤ 2000) (p : Int) (hp : 0 ≤ p) (hp2 : p ≤ 800000) :
  ∃ ys q, Evn (fun k => spec_l14Bytes.f k l p) (strOfNums ys, q) ∧ ys.length ≤ 8 ∧ p ≤ q ∧ q ≤ p + 9 := by
 obtain ⟨v, h, b1, b2⟩ := pick_ev hl hlen p 8 hp (by omega) (by omega)
 obtain ⟨n, rfl⟩ := Int.eq_ofNat_of_zero_le b1
 obtain ⟨ys, h2, hy⟩ := bytes_l0 hl hlen n [] (p + 1) (by simp; omega) (by omega) (by omega)
 exact ⟨ys, p + 1 + n, Evn.bind h h2, by simp at hy; omega, by omega, by omega⟩
def hasB (s : ByteArray) : List ByteArray → Bool
 | [] => false
 | x :: xs => decide (x.toList = s.toList) || hasB s xs
theorem has_l0 (s : ByteArray) (xs : List ByteArray) (hlen : xs.length ≤ 1048576) : ∀ (d i : Nat), i + d = xs.length → Evn (fun k => spec_l2Has.l0 k xs s (i : Int)) (hasB s (xs.drop i))
 | 0, i, hd => by
  rw [List.drop_eq_nil_of_le (by omega)]
  exact Evn.step (g' := fun _ => some false) (fun k => by rw [spec_l2Has.l0, if_neg (by omega)]) (Evn.pure _)
 | d + 1, i, hd => by
  have hi : i < xs.length := by omega
  have ih := has_l0 s xs hlen d (i + 1) (by omega)
  rw [← w1 i (by omega)] at ih
  have e : rdOf ByteArray.empty xs (i : Int) = xs[i] := by simp only [rdOf, getD_nat _ _ _ hi]
  rw [List.drop_eq_getElem_cons hi]
  refine Evn.step (fun k => by rw [spec_l2Has.l0, if_pos (by omega), if_pos (by omega), e]) ?_
  show Evn _ (decide (xs[i].toList = s.toList) || hasB s (xs.drop (i + 1)))
  by_cases c : xs[i].toList = s.toList
  ·rw [decide_eq_true c, Bool.true_or]; exact Evn.ite_pos c (Evn.pure _)
  ·rw [decide_eq_false c, Bool.false_or]; exact Evn.ite_neg c ih
theorem has_ev (s : ByteArray) (xs : List ByteArray) (hlen : xs.length ≤ 1048576) : Evn (fun k => spec_l2Has.f k xs s) (hasB s xs) := has_l0 s xs hlen xs.length 0 (by omega)
def ahead (s : ByteArray) : List ByteArray → Nat
 | [] => 0
 | x :: xs => if Op.bytesLess x.toList s.toList = true then ahead s xs + 1 else 0
theorem ahead_le (s : ByteArray) : ∀ xs, ahead s xs ≤ xs.length
 | [] => Nat.le_refl _
 | x :: xs => by
  have := ahead_le s xs
  unfold ahead
  split <;> simp <;> omega
theorem eta (x : S33) : (⟨x.f0, ⟨x.f1.f0, x.f1.f1⟩, x.f2, x.f3, x.f4⟩ : S33) = x := by cases x; rfl
def putAt (k : Nat) (v : S33) (s : ByteArray) (x : S33) : S33 := ⟨6, ⟨0, 0⟩, ⟨#[]⟩, v.f3.take k ++ x :: v.f3.drop k, v.f4.take k ++ s :: v.f4.drop k⟩
abbrev into (k : Nat) (v : S33) (s : ByteArray) (x : S33) (b : Bool) := spec_l7Into.f k v.f0 v.f1.f0 v.f1.f1 v.f2 v.f3 v.f4 s x.f0 x.f1.f0 x.f1.f1 x.f2 x.f3 x.f4 b
abbrev tup7 {α : Type} (y : S33) (b : α) : Int × Int × Int × ByteArray × List S33 × List ByteArray × α := (y.f0, y.f1.f0, y.f1.f1, y.f2, y.f3, y.f4, b)
theorem into_j1 (v : S33) (s : ByteArray) (x : S33) (b : Bool) (n : Nat) (h1 : n ≤ v.f4.length) (h2 : n ≤ v.f3.length) (h3 : v.f4.length ≤ 1048576) (h4 : v.f3.length ≤ 1048576) :
  Evn (fun k => spec_l7Into.j1 k s b (n : Int) v.f0 v.f1.f0 v.f1.f1 v.f2 v.f3 v.f4 x.f0 x.f1.f0 x.f1.f1 x.f2 x.f3 x.f4) (tup7 (putAt n v s x) b) := by
 refine Evn.step (g' := fun _ => some (tup7 (putAt n v s x) b)) (fun k => ?_) (Evn.pure _)
 have l1 : (v.f4.take n).length ≤ 1048576 := by rw [List.length_take]; omega
 have l2 : (v.f4.drop n).length ≤ 1048576 := by rw [List.length_drop]; omega
 have l3 : (v.f3.take n).length ≤ 1048576 := by rw [List.length_take]; omega
 have l4 : (v.f3.drop n).length ≤ 1048576 := by rw [List.length_drop]; omega
 rw [spec_l7Into.j1]
 simp only [Option.bind_some, Int.toNat_natCast, List.nil_append, List.length_append, List.length_cons, List.length_nil]
 rw [if_pos (by omega), if_pos (by omega), if_pos (by omega), if_pos (by omega), if_pos (by omega), if_pos (by omega), if_pos (by omega), if_pos (by omega), if_pos (by omega)]
 simp only [putAt, List.append_assoc, List.cons_append, List.nil_append, eta]
theorem into_l0 (v : S33) (s : ByteArray) (x : S33) (b : Bool) (h : v.f4.length ≤ v.f3.length) (h4 : v.f3.length ≤ 1048576) : ∀ (d i : Nat), i + d = v.f4.length →
  Evn (fun k => spec_l7Into.l0 k s b (i : Int) v.f0 v.f1.f0 v.f1.f1 v.f2 v.f3 v.f4 x.f0 x.f1.f0 x.f1.f1 x.f2 x.f3 x.f4) (tup7 (putAt (i + ahead s (v.f4.drop i)) v s x) b)
 | 0, i, hd => by
  rw [List.drop_eq_nil_of_le (by omega)]
  refine Evn.step (fun k => by rw [spec_l7Into.l0, if_neg (by omega)]) ?_
  exact into_j1 v s x b i (by omega) (by omega) (by omega) h4
 | d + 1, i, hd => by
  have hi : i < v.f4.length := by omega
  have ih := into_l0 v s x b h h4 d (i + 1) (by omega)
  rw [← w1 i (by omega)] at ih
  have e : rdOf ByteArray.empty v.f4 (i : Int) = v.f4[i] := by simp only [rdOf, getD_nat _ _ _ hi]
  rw [List.drop_eq_getElem_cons hi]
  refine Evn.step (fun k => by rw [spec_l7Into.l0, if_pos (by omega), if_pos (by omega), e]) ?_
  unfold ahead
  by_cases c : Op.bytesLess v.f4[i].toList s.toList = true
  ·rw [if_pos c, show i + (ahead s (v.f4.drop (i + 1)) + 1) = i + 1 + ahead s (v.f4.drop (i + 1)) by omega]
   exact Evn.ite_pos c ih
  ·rw [if_neg c]
   exact Evn.ite_neg c (into_j1 v s x b i (by omega) (by omega) (by omega) h4)
theorem into_ev (v : S33) (s : ByteArray) (x : S33) (b : Bool) (h : v.f4.length ≤ v.f3.length) (h4 : v.f3.length ≤ 1048576) :
  Evn (fun k => into k v s x b) (if hasB s v.f4 = true then tup7 v false else tup7 (putAt (ahead s v.f4) v s x) b) := by
 have h0 := into_l0 v s x b h h4 v.f4.length 0 (by omega)
 rw [Nat.zero_add, List.drop_zero] at h0
 unfold into spec_l7Into.f
 refine Evn.bind (has_ev s v.f4 (by omega)) ?_
 by_cases c : hasB s v.f4 = true
 ·rw [if_pos c]; exact Evn.ite_pos c (Evn.pure _)
 ·rw [if_neg c]; exact Evn.ite_neg c h0
def Nd (m : Nat) (z : S33) : Prop := ((-1 ≤ z.f0 ∧ z.f0 ≤ 7) ∧ (z.f0 = 6 → z.f3.length ≤ z.f4.length)) ∧ (-100000000 ≤ z.f1.f0 ∧ z.f1.f0 ≤ 100000000) ∧ (-9 ≤ z.f1.f1 ∧ z.f1.f1 ≤ 9) ∧ z.f3.length ≤ 3 ∧ z.f4.length ≤ m ∧ ∀ s, s ∈ z.f4 → s.size ≤ 10
def Dv : Nat → S33 → Prop
 | 0, _ => False
 | d + 1, z => Nd 3 z ∧ ∀ y, y ∈ z.f3 → Dv d y
theorem Dv.up : ∀ (n : Nat) (z : S33), Dv n z → Dv (n + 1) z
 | 0, _, h => h.elim
 | n + 1, _, ⟨h, hk⟩ => ⟨h, fun y hy => Dv.up n y (hk y hy)⟩
theorem Dv.le {n m : Nat} {z : S33} (h : Dv n z) (hm : n ≤ m) : Dv m z := by
 obtain ⟨d, rfl⟩ : ∃ d, m = n + d := ⟨m - n, by omega⟩
 induction d with
 | zero => exact h
 | succ d ih => exact Dv.up _ _ (ih (by omega))
theorem Dv.lo : ∀ (n : Nat) (z : S33), Dv n z → Lo n z
 | 0, _, h => h.elim
 | n + 1, z, ⟨h, hk⟩ => ⟨by have := h.2.2.2.1; omega, fun y hy => Dv.lo n y (hk y hy), by have := h.2.2.2.2.1; omega, fun s hs => by have := h.2.2.2.2.2 s hs; omega⟩
def C : Nat → Nat
 | 0 => 12
 | d + 1 => 3 * C d + 12
theorem mono5 {s : ByteArray} (h : s ∈ [(⟨#[97]⟩ : ByteArray), ⟨#[98]⟩, ⟨#[99]⟩, ⟨#[108, 111, 110, 103, 95, 110, 97, 109, 101, 49]⟩, ⟨#[120]⟩]) : s.size ≤ 10 := by
 simp only [List.mem_cons, List.not_mem_nil, or_false] at h
 rcases h with rfl | rfl | rfl | rfl | rfl <;> decide
theorem dec_low {m e : Int} (h : Ok m e) : -100000000 ≤ m ∧ m ≤ 100000000 ∧ -9 ≤ e ∧ e ≤ 9 := by unfold Ok at h; omega
section
variable {l : List Int} (hl : Bytes l) (hlen : l.length ≤ 2000)
def Val (l : List Int) (d : Nat) : Prop := ∀ p : Int, 0 ≤ p → p + C d ≤ 100000 → ∃ z q, Evn (fun k => spec_l14Value.f k l p (d : Int)) (tup7 z q) ∧ Dv (d + 1) z ∧ p ≤ q ∧ q ≤ p + C d
theorem arr_l0 (e : Nat) (he : e ≤ 10) (ih : Val l e) : ∀ (n : Nat) (xs : List S33) (p : Int), xs.length + n ≤ 3 → (∀ y, y ∈ xs → Dv (e + 1) y) → 0 ≤ p → p + n * C e ≤ 100000 →
  ∃ z q, Evn (fun k => spec_l14Value.l0 k ((e + 1 : Nat) : Int) (n : Int) l p 5 0 0 ⟨#[]⟩ xs) (tup7 z q) ∧ Dv (e + 2) z ∧ p ≤ q ∧ q ≤ p + n * C e
 | 0, xs, p, h, hx, _, _ => by
  refine ⟨⟨5, ⟨0, 0⟩, ⟨#[]⟩, xs, []⟩, p, Evn.step (g' := fun _ => some (tup7 (⟨5, ⟨0, 0⟩, ⟨#[]⟩, xs, []⟩ : S33) p)) (fun k => by rw [spec_l14Value.l0, if_neg (by omega)]) (Evn.pure _), ⟨⟨by dsimp only; omega, by dsimp only; omega, by dsimp only; omega, by dsimp only; omega, by simp, by simp⟩, hx⟩, by omega, by omega⟩
 | n + 1, xs, p, h, hx, hp, hp2 => by
  have e1 : ((n + 1 : Nat) : Int) * (C e : Int) = n * C e + C e := by rw [Int.natCast_add, Int.add_mul]; simp
  rw [e1] at hp2 ⊢
  have hc : (0 : Int) ≤ n * C e := Int.mul_nonneg (by omega) (by omega)
  obtain ⟨y, q, hy, hD, hq1, hq2⟩ := ih p hp (by omega)
  obtain ⟨z, q2, hz, hDz, hq3, hq4⟩ := arr_l0 e he ih n (xs ++ [y]) q (by simp; omega) (fun u hu => by rcases List.mem_append.1 hu with hu | hu; exact hx u hu; simp at hu; rw [hu]; exact hD) (by omega) (by omega)
  refine ⟨z, q2, Evn.step (fun k => by rw [spec_l14Value.l0, if_pos (by omega), show wrap64 (((e + 1 : Nat) : Int) - 1) = (e : Int) by rw [wrap64_id (by omega) (by omega)]; omega]) (Evn.bind hy (Evn.ite_pos (show xs.length < 1599289640401 by omega) ?_)), hDz, by omega, by omega⟩
  rw [show wrap64 (((n + 1 : Nat) : Int) - 1) = (n : Int) by rw [wrap64_id (by omega) (by omega)]; omega]
  dsimp only
  simp only [eta]
  exact hz
theorem putAt_dv {e n : Nat} {v x : S33} {s : ByteArray} {m : Nat} (hs : s.size ≤ 10) (hx : Dv e x) (hv : ∀ y, y ∈ v.f3 → Dv e y) (hn : ∀ t, t ∈ v.f4 → t.size ≤ 10) (h1 : v.f3.length = v.f4.length) (h2 : v.f3.length ≤ n) (hm : m ≤ v.f4.length) :
  (∀ y, y ∈ (putAt m v s x).f3 → Dv e y) ∧ (∀ t, t ∈ (putAt m v s x).f4 → t.size ≤ 10) ∧ (putAt m v s x).f3.length = (putAt m v s x).f4.length ∧ (putAt m v s x).f3.length ≤ n + 1 := by
 refine ⟨fun y hy => ?_, fun t ht => ?_, ?_, ?_⟩
 ·rcases List.mem_append.1 hy with hy | hy
  ·exact hv y (List.mem_of_mem_take hy)
  ·rcases List.mem_cons.1 hy with hy | hy
   ·rw [hy]; exact hx
   ·exact hv y (List.mem_of_mem_drop hy)
 ·rcases List.mem_append.1 ht with ht | ht
  ·exact hn t (List.mem_of_mem_take ht)
  ·rcases List.mem_cons.1 ht with ht | ht
   ·rw [ht]; exact hs
   ·exact hn t (List.mem_of_mem_drop ht)
 ·simp only [putAt, List.length_append, List.length_cons, List.length_take, List.length_drop]; omega
 ·simp only [putAt, List.length_append, List.length_cons, List.length_take, List.length_drop]; omega
include hl hlen in
theorem obj_l1 (e : Nat) (he : e ≤ 10) (ih : Val l e) : ∀ (n : Nat) (v : S33) (p : Int), v.f0 = 6 → v.f1 = ⟨0, 0⟩ → v.f2 = ⟨#[]⟩ → v.f3.length + n ≤ 3 → v.f3.length = v.f4.length → (∀ y, y ∈ v.f3 → Dv (e + 1) y) → (∀ t, t ∈ v.f4 → t.size ≤ 10) → 0 ≤ p → p + n * (C e + 1) ≤ 100000 →
  ∃ z q, Evn (fun k => spec_l14Value.l1 k ((e + 1 : Nat) : Int) (n : Int) l p v.f0 v.f1.f0 v.f1.f1 v.f2 v.f3 v.f4) (tup7 z q) ∧ Dv (e + 2) z ∧ p ≤ q ∧ q ≤ p + n * (C e + 1)
 | 0, v, p, h0, h1, _, h, h34, hx, hn, _, _ => by
  refine ⟨v, p, Evn.step (g' := fun _ => some (tup7 v p)) (fun k => by rw [spec_l14Value.l1, if_neg (by omega)]) (Evn.pure _), ⟨⟨by omega, by rw [h1]; dsimp only; omega, by rw [h1]; dsimp only; omega, by omega, by omega, hn⟩, hx⟩, by omega, by omega⟩
 | n + 1, v, p, h0, h1, h2, h, h34, hx, hn, hp, hp2 => by
  have e1 : ((n + 1 : Nat) : Int) * ((C e : Int) + 1) = n * (C e + 1) + (C e + 1) := by rw [Int.natCast_add, Int.add_mul]; simp
  rw [e1] at hp2 ⊢
  have hc : (0 : Int) ≤ n * (C e + 1) := Int.mul_nonneg (by omega) (by omega)
  obtain ⟨s, hs, hsm⟩ := of_ev hl hlen p [⟨#[97]⟩, ⟨#[98]⟩, ⟨#[99]⟩, ⟨#[108, 111, 110, 103, 95, 110, 97, 109, 101, 49]⟩, ⟨#[120]⟩] hp (by omega) (by simp) (by simp)
  obtain ⟨y, q, hy, hD, hq1, hq2⟩ := ih (p + 1) (by omega) (by omega)
  have hI := into_ev v s y true (by omega) (by omega)
  have hstep : ∀ v' : S33, v'.f0 = 6 → v'.f1 = ⟨0, 0⟩ → v'.f2 = ⟨#[]⟩ → v'.f3.length + n ≤ 3 → v'.f3.length = v'.f4.length → (∀ y, y ∈ v'.f3 → Dv (e + 1) y) → (∀ t, t ∈ v'.f4 → t.size ≤ 10) → ∀ b, Evn (fun k => into k v s y true) (tup7 v' b) →
    ∃ z q, Evn (fun k => spec_l14Value.l1 k ((e + 1 : Nat) : Int) ((n + 1 : Nat) : Int) l p v.f0 v.f1.f0 v.f1.f1 v.f2 v.f3 v.f4) (tup7 z q) ∧ Dv (e + 2) z ∧ p ≤ q ∧ q ≤ p + (n * (C e + 1) + (C e + 1)) := by
   intro v' a0 a1 a2 a3 a4 a5 a6 b hI
   obtain ⟨z, q2, hz, hDz, hq3, hq4⟩ := obj_l1 e he ih n v' q a0 a1 a2 a3 a4 a5 a6 (by omega) (by omega)
   refine ⟨z, q2, Evn.step (fun k => by rw [spec_l14Value.l1, if_pos (by omega), show wrap64 (((e + 1 : Nat) : Int) - 1) = (e : Int) by rw [wrap64_id (by omega) (by omega)]; omega]) (Evn.bind hs (Evn.bind hy (Evn.bind hI ?_))), hDz, by omega, by omega⟩
   rw [show wrap64 (((n + 1 : Nat) : Int) - 1) = (n : Int) by rw [wrap64_id (by omega) (by omega)]; omega]
   exact hz
  by_cases c : hasB s v.f4 = true
  ·rw [if_pos c] at hI
   exact hstep v h0 h1 h2 (by omega) h34 hx hn false hI
  ·rw [if_neg c] at hI
   have hA := ahead_le s v.f4
   have hP := putAt_dv (n := v.f3.length) (mono5 hsm) hD hx hn h34 (Nat.le_refl _) hA
   exact hstep (putAt (ahead s v.f4) v s y) rfl rfl rfl (by omega) hP.2.2.1 hP.1 hP.2.1 true hI
include hl hlen in
theorem j0_ev (d : Nat) (hd : d ≤ 10) (ih : ∀ e, d = e + 1 → Val l e) (x p : Int) (h0 : 0 ≤ x) (h1 : x < 7) (h2 : 5 ≤ x → 1 ≤ d) (hp : 0 ≤ p) (hp2 : p + C d ≤ 100002) :
  ∃ z q, Evn (fun k => spec_l14Value.j0 k (d : Int) x l p) (tup7 z q) ∧ Dv (d + 1) z ∧ p ≤ q ∧ q + 2 ≤ p + C d := by
 have hC : 12 ≤ C d := by cases d <;> simp [C]
 by_cases c3 : x = 3
 ·obtain ⟨m, e, hd', hO⟩ := dec_ev hl hlen p hp (by omega)
  have hL := dec_low hO
  refine ⟨⟨x, ⟨m, e⟩, ⟨#[]⟩, [], []⟩, p + 6, Evn.step (fun k => by rw [spec_l14Value.j0, if_pos c3]) (Evn.bind hd' (Evn.pure _)), ⟨⟨by dsimp only; omega, by dsimp only; omega, by dsimp only; omega, by simp, by simp, by simp⟩, by simp⟩, by omega, by omega⟩
 by_cases c4 : x = 4
 ·obtain ⟨ys, q, hb, hy, hq1, hq2⟩ := bytes_ev hl hlen p hp (by omega)
  refine ⟨⟨x, ⟨0, 0⟩, strOfNums ys, [], []⟩, q, Evn.step (fun k => by rw [spec_l14Value.j0, if_neg c3, if_pos c4]) (Evn.bind hb (Evn.pure _)), ⟨⟨by dsimp only; omega, by dsimp only; omega, by dsimp only; omega, by simp, by simp, by simp⟩, by simp⟩, by omega, by omega⟩
 by_cases c5 : x = 5
 ·obtain ⟨e, rfl⟩ : ∃ e, d = e + 1 := ⟨d - 1, by omega⟩
  have hC1 : (C (e + 1) : Int) = 3 * C e + 12 := by simp [C]
  obtain ⟨v, hv, b1, b2⟩ := pick_ev hl hlen p 4 hp (by omega) (by omega)
  obtain ⟨n, rfl⟩ := Int.eq_ofNat_of_zero_le b1
  have hn : (n : Int) * C e ≤ 3 * C e := Int.mul_le_mul_of_nonneg_right (by omega) (by omega)
  obtain ⟨z, q, hz, hD, hq1, hq2⟩ := arr_l0 e (by omega) (ih e rfl) n [] (p + 1) (by simp; omega) (by simp) (by omega) (by omega)
  refine ⟨z, q, Evn.step (fun k => by rw [spec_l14Value.j0, if_neg c3, if_neg c4, if_pos c5]) (Evn.bind hv ?_), hD, by omega, by omega⟩
  rw [c5]
  exact hz
 by_cases c6 : x = 6
 ·obtain ⟨e, rfl⟩ : ∃ e, d = e + 1 := ⟨d - 1, by omega⟩
  have hC1 : (C (e + 1) : Int) = 3 * C e + 12 := by simp [C]
  obtain ⟨v, hv, b1, b2⟩ := pick_ev hl hlen p 4 hp (by omega) (by omega)
  obtain ⟨n, rfl⟩ := Int.eq_ofNat_of_zero_le b1
  have hn : (n : Int) * (C e + 1) ≤ 3 * (C e + 1) := Int.mul_le_mul_of_nonneg_right (by omega) (by omega)
  obtain ⟨z, q, hz, hD, hq1, hq2⟩ := obj_l1 hl hlen e (by omega) (ih e rfl) n ⟨x, ⟨0, 0⟩, ⟨#[]⟩, [], []⟩ (p + 1) c6 rfl rfl (by simp; omega) rfl (by simp) (by simp) (by omega) (by omega)
  exact ⟨z, q, Evn.step (fun k => by rw [spec_l14Value.j0, if_neg c3, if_neg c4, if_neg c5, if_pos c6]) (Evn.bind hv hz), hD, by omega, by omega⟩
 ·refine ⟨⟨x, ⟨0, 0⟩, ⟨#[]⟩, [], []⟩, p, Evn.step (g' := fun _ => some (tup7 (⟨x, ⟨0, 0⟩, ⟨#[]⟩, [], []⟩ : S33) p)) (fun k => by rw [spec_l14Value.j0, if_neg c3, if_neg c4, if_neg c5, if_neg c6]) (Evn.pure _), ⟨⟨by dsimp only; omega, by dsimp only; omega, by dsimp only; omega, by simp, by simp, by simp⟩, by simp⟩, by omega, by omega⟩
include hl hlen in
theorem value_ev : ∀ d : Nat, d ≤ 10 → Val l d
 | d, hd, p, hp, hp2 => by
  have hC : 12 ≤ C d := by cases d <;> simp [C]
  obtain ⟨v, hv, b1, b2⟩ := pick_ev hl hlen p 7 hp (by omega) (by omega)
  by_cases c : (d : Int) ≤ 0
  ·obtain ⟨u, hu, b3, b4⟩ := pick_ev hl hlen (p + 1) 5 (by omega) (by omega) (by omega)
   obtain ⟨z, q, hz, hD, hq1, hq2⟩ := j0_ev hl hlen d hd (fun e he => by omega) u (p + 1 + 1) b3 (by omega) (by omega) (by omega) (by omega)
   exact ⟨z, q, Evn.step (fun k => by rw [spec_l14Value.f]) (Evn.bind hv (Evn.ite_pos c (Evn.bind hu hz))), hD, by omega, by omega⟩
  ·obtain ⟨z, q, hz, hD, hq1, hq2⟩ := j0_ev hl hlen d hd (fun e he => value_ev e (by omega)) v (p + 1) b1 b2 (by omega) (by omega) (by omega)
   exact ⟨z, q, Evn.step (fun k => by rw [spec_l14Value.f]) (Evn.bind hv (Evn.ite_neg c hz)), hD, by omega, by omega⟩
 termination_by d => d
end
def wrapped : Nat → S33 → S33
 | 0, z => z
 | n + 1, z => wrapped n ⟨5, ⟨0, 0⟩, ⟨#[]⟩, [z], []⟩
theorem nest_l0 (l : List Int) (p : Int) : ∀ (n i : Nat) (z : S33), i + n = 20 → Evn (fun k => spec_l14AnyValue.l0 k (i : Int) l p z.f0 z.f1.f0 z.f1.f1 z.f2 z.f3 z.f4) (tup7 (wrapped n z) p)
 | 0, i, z, h => Evn.step (g' := fun _ => some (tup7 z p)) (fun k => by rw [spec_l14AnyValue.l0, if_neg (by omega)]) (Evn.pure _)
 | n + 1, i, z, h => by
  have ih := nest_l0 l p n (i + 1) ⟨5, ⟨0, 0⟩, ⟨#[]⟩, [z], []⟩ (by omega)
  rw [← w1 i (by omega)] at ih
  exact Evn.step (fun k => by rw [spec_l14AnyValue.l0, if_pos (by omega), eta]) ih
theorem wrapped_dv : ∀ (n d : Nat) (z : S33), Dv d z → Dv (d + n) (wrapped n z)
 | 0, _, _, h => h
 | n + 1, d, z, h => by
  have := wrapped_dv n (d + 1) ⟨5, ⟨0, 0⟩, ⟨#[]⟩, [z], []⟩ ⟨⟨by dsimp only; omega, by dsimp only; omega, by dsimp only; omega, by simp, by simp, by simp⟩, fun y hy => by simp at hy; rw [hy]; exact h⟩
  rw [show d + (n + 1) = d + 1 + n by omega]
  exact this
def Any (z : S33) : Prop := (Nd 4 z ∧ ∀ y, y ∈ z.f3 → Dv 3 y) ∨ ∃ y, Dv 4 y ∧ z = wrapped 20 y
theorem any_ev {l : List Int} (hl : Bytes l) (hlen : l.length ≤ 2000) (p : Int) (hp : 0 ≤ p) (hp2 : p ≤ 90000) :
  ∃ z q, Evn (fun k => spec_l14AnyValue.f k l p) (tup7 z q) ∧ Any z ∧ p ≤ q ∧ q ≤ p + 1000 := by
 obtain ⟨v, hv, b1, b2⟩ := pick_ev hl hlen p 3 hp (by omega) (by omega)
 obtain ⟨n, rfl⟩ := Int.eq_ofNat_of_zero_le b1
 have hC : C (n + 1) ≤ 900 := by
  have : n = 0 ∨ n = 1 ∨ n = 2 := by omega
  rcases this with rfl | rfl | rfl <;> decide
 obtain ⟨z, q, hz, hD, hq1, hq2⟩ := value_ev hl hlen (n + 1) (by omega) (p + 1) (by omega) (by omega)
 have hw : wrap64 (1 + (n : Int)) = ((n + 1 : Nat) : Int) := by rw [wrap64_id (by omega) (by omega)]; omega
 rw [← hw] at hz
 have hD4 : Dv 4 z := hD.le (by omega)
 obtain ⟨h1, hk⟩ := hD4
 have h14 : Nd 4 z := ⟨h1.1, h1.2.1, h1.2.2.1, h1.2.2.2.1, by have := h1.2.2.2.2.1; omega, h1.2.2.2.2.2⟩
 obtain ⟨u, hu, b3, b4⟩ := pick_ev hl hlen q 20 (by omega) (by omega) (by omega)
 unfold spec_l14AnyValue.f
 by_cases c0 : u = 0
 ·obtain ⟨x, hx, hxm⟩ := one_ev hl hlen (q + 1) [-1, 7, 5] (by omega) (by omega) (by simp)
  have hxm : x = -1 ∨ x = 7 ∨ x = 5 := by simpa using hxm
  exact ⟨⟨x, z.f1, z.f2, z.f3, z.f4⟩, q + 1 + 1, Evn.bind hv (Evn.bind hz (Evn.bind hu (Evn.ite_pos c0 (Evn.bind hx (Evn.pure _))))), .inl ⟨⟨by dsimp only; omega, h14.2⟩, hk⟩, by omega, by omega⟩
 by_cases c1 : u = 1
 ·refine ⟨⟨z.f0, z.f1, z.f2, z.f3, z.f4 ++ [⟨#[97]⟩]⟩, q + 1, Evn.bind hv (Evn.bind hz (Evn.bind hu (Evn.ite_neg c0 (Evn.ite_pos c1 (Evn.ite_pos (show z.f4.length < 8796093022208 by have := h1.2.2.2.2.1; omega) (Evn.pure _)))))), .inl ⟨⟨⟨h1.1.1, fun e => by have := h1.1.2 e; simp; omega⟩, h1.2.1, h1.2.2.1, h1.2.2.2.1, by have := h1.2.2.2.2.1; simp; omega, fun s hs => ?_⟩, hk⟩, by omega, by omega⟩
  rcases List.mem_append.1 hs with hs | hs
  ·exact h1.2.2.2.2.2 s hs
  ·simp at hs; rw [hs]; decide
 by_cases c2 : u = 2
 ·exact ⟨⟨z.f0, ⟨10, 0⟩, z.f2, z.f3, z.f4⟩, q + 1, Evn.bind hv (Evn.bind hz (Evn.bind hu (Evn.ite_neg c0 (Evn.ite_neg c1 (Evn.ite_pos c2 (Evn.pure _)))))), .inl ⟨⟨h1.1, by dsimp only; omega, by dsimp only; omega, h14.2.2.2⟩, hk⟩, by omega, by omega⟩
 by_cases c3 : u = 3
 ·exact ⟨⟨z.f0, z.f1, ⟨#[120]⟩, z.f3, z.f4⟩, q + 1, Evn.bind hv (Evn.bind hz (Evn.bind hu (Evn.ite_neg c0 (Evn.ite_neg c1 (Evn.ite_neg c2 (Evn.ite_pos c3 (Evn.pure _))))))), .inl ⟨⟨h1.1, h1.2.1, h1.2.2.1, h14.2.2.2⟩, hk⟩, by omega, by omega⟩
 by_cases c4 : u = 4
 ·exact ⟨wrapped 20 z, q + 1, Evn.bind hv (Evn.bind hz (Evn.bind hu (Evn.ite_neg c0 (Evn.ite_neg c1 (Evn.ite_neg c2 (Evn.ite_neg c3 (Evn.ite_pos c4 (nest_l0 l (q + 1) 20 0 z rfl)))))))), .inr ⟨z, ⟨h1, hk⟩, rfl⟩, by omega, by omega⟩
 ·exact ⟨z, q + 1, Evn.bind hv (Evn.bind hz (Evn.bind hu (Evn.ite_neg c0 (Evn.ite_neg c1 (Evn.ite_neg c2 (Evn.ite_neg c3 (Evn.ite_neg c4 (Evn.pure _)))))))), .inl ⟨h14, hk⟩, by omega, by omega⟩
end Go.Proofs.YtoajejdicfabmaaDoor.Dw
