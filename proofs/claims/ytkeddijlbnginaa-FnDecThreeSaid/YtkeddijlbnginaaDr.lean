import Derived.Test.YtkeddijlbnginaaDp
import Derived.Laws.BitsLemmas
import Derived.Test.YtkeddijlbnginaaQ4
import Derived.Test.YtkeddijlbnginaaQ9
import Derived.Test.YtkeddijlbnginaaQ10
import Derived.Test.YtkeddijlbnginaaQ16
import Derived.Test.YtkeddijlbnginaaQ17
import Derived.Test.YtkeddijlbnginaaQ18
namespace Go.Proofs.Ytkeddijlbnginaa.Dp
set_option linter.unusedVariables false
set_option linter.unusedSimpArgs false
open Go.RowKit Go.Proofs.Ytkeddijlbnginaa.Q Go.Proofs.Ytkeddijlbnginaa.Th Go.Proofs.YtkeddijlbnginaaW.PrintWords Go.Proofs.YtkeddijlbnginaaW.PrintLast

/-! ### what is drawn -/
theorem xor_low (a b : Int) (ha : 0 ≤ a) (hb : 0 ≤ b) (ha2 : a < 4611686018427387904) (hb2 : b < 4611686018427387904) : 0 ≤ Go.bits .xor .i64 a b := by
  obtain ⟨x, rfl⟩ := Int.eq_ofNat_of_zero_le ha
  obtain ⟨y, rfl⟩ := Int.eq_ofNat_of_zero_le hb
  have hx : x < 2 ^ 62 := by omega
  have hy : y < 2 ^ 62 := by omega
  have h := Nat.xor_lt_two_pow hx hy
  have hx' : x % 2 ^ IntKind.i64.bits = x := Nat.mod_eq_of_lt (by simp [IntKind.bits]; omega)
  have hy' : y % 2 ^ IntKind.i64.bits = y := Nat.mod_eq_of_lt (by simp [IntKind.bits]; omega)
  simp only [Go.bits, BitVec.ofInt_natCast, BitVec.toNat_xor, BitVec.toNat_ofNat, hx', hy']
  rw [IntKind.wrap_i64]
  omega
def Bytes (l : List Int) : Prop := ∀ i, 0 ≤ rd l i ∧ rd l i ≤ 255
theorem bytes_of {l : List Int} (h : ∀ x ∈ l, (Lit.int .u8 x).wf = true) : Bytes l := by
  intro i
  unfold rd
  by_cases hi : i.toNat < l.length
  · have := h _ (List.getElem_mem hi)
    simp [Lit.wf, IntKind.min, IntKind.max, IntKind.signed, IntKind.bits] at this
    simp [List.getD_eq_getElem?_getD, List.getElem?_eq_getElem hi]
    omega
  · rw [List.getD_eq_getElem?_getD, List.getElem?_eq_none (by omega)]; simp
theorem tmod_low {x n : Int} (hx : 0 ≤ x) (hn : 0 < n) : 0 ≤ Int.tmod x n ∧ Int.tmod x n < n := by
  rw [Int.tmod_eq_emod_of_nonneg hx]
  exact ⟨Int.emod_nonneg _ (by omega), Int.emod_lt_of_pos _ hn⟩
theorem pick (k : Nat) (l : List Int) (p n : Int) (hl : Bytes l) (hlen : l.length ≤ 2000) (hp : 0 ≤ p) (hp2 : p ≤ 1000000) :
    ∃ v, spec_l1Rd_pick.f (k + 1) l p n = some (v, p + 1) ∧ (1 ≤ n → 0 ≤ v ∧ v < n) ∧ (n < 1 → v = 0) := by
  unfold spec_l1Rd_pick.f
  rw [wrap64_id (x := p + 1) (by omega) (by omega)]
  by_cases hn : n < 1
  · rw [if_pos hn, spec_l1Rd_pick.j0, if_pos rfl]; exact ⟨0, rfl, by omega, fun _ => rfl⟩
  rw [if_neg hn]
  by_cases h0 : (l.length : Int) = 0
  · rw [spec_l1Rd_pick.j0, if_pos (by rw [h0]; rfl)]; exact ⟨0, rfl, by omega, fun _ => rfl⟩
  rw [spec_l1Rd_pick.j0, if_neg (by rw [beq_false_of_ne h0]; decide), show p + 1 - 1 = p by omega, wrap64_id (x := p) (by omega) (by omega)]
  by_cases h1 : p < (l.length : Int)
  · rw [if_pos h1, if_pos hp, if_neg (by omega)]
    have hb := hl p
    rw [wrap64_id (by omega) (by omega)]
    have := tmod_low (x := rd l p) (n := n) (by omega) (by omega)
    exact ⟨_, rfl, fun _ => this, by omega⟩
  · have t1 := tmod_low (x := p) (n := (l.length : Int)) hp (by omega)
    rw [if_neg h1, if_neg h0, if_pos t1.1, if_pos t1.2, wrap64_id (x := p * 7) (by omega) (by omega), wrap64_id (x := p * 7 + 3) (by omega) (by omega)]
    have t2 := tmod_low (x := p * 7 + 3) (n := (l.length : Int)) (by omega) (by omega)
    rw [if_pos t2.1, if_pos t2.2, if_neg (by omega)]
    have b1 := hl (Int.tmod p l.length)
    have b2 := hl (Int.tmod (p * 7 + 3) l.length)
    have t3 : 0 ≤ Int.tdiv p l.length ∧ Int.tdiv p l.length ≤ p := by
      rw [Int.tdiv_eq_ediv_of_nonneg hp]; exact ⟨Int.ediv_nonneg hp (by omega), Int.ediv_le_self _ hp⟩
    generalize rd l (Int.tmod p l.length) = y1 at *
    generalize rd l (Int.tmod (p * 7 + 3) l.length) = y2 at *
    generalize Int.tdiv p l.length = y3 at *
    rw [wrap64_id (x := y1) (by omega) (by omega), wrap64_id (x := y2) (by omega) (by omega), wrap64_id (x := y3) (by omega) (by omega), wrap64_id (x := y1 * 131) (by omega) (by omega), wrap64_id (x := y2 * 1117) (by omega) (by omega), wrap64_id (x := p * 29) (by omega) (by omega), wrap64_id (x := y3 * 53) (by omega) (by omega),
      wrap64_id (x := y1 * 131 + y2 * 1117) (by omega) (by omega), wrap64_id (x := y1 * 131 + y2 * 1117 + p * 29) (by omega) (by omega), wrap64_id (x := y1 * 131 + y2 * 1117 + p * 29 + y3 * 53) (by omega) (by omega), Int.tdiv_eq_ediv_of_nonneg (by omega)]
    generalize hz : y1 * 131 + y2 * 1117 + p * 29 + y3 * 53 = z
    rw [wrap64_id (x := z / 64) (by omega) (by omega)]
    have := tmod_low (x := Go.bits .xor .i64 z (z / 64)) (n := n) (xor_low _ _ (by omega) (by omega) (by omega) (by omega)) (by omega)
    exact ⟨_, rfl, fun _ => this, by omega⟩
theorem one (k : Nat) (l : List Int) (p : Int) (xs : List Int) (hl : Bytes l) (hlen : l.length ≤ 2000) (hp : 0 ≤ p) (hp2 : p ≤ 1000000) (hx : 1 ≤ xs.length) :
    ∃ v, spec_l1Rd_one.f (k + 1) l p xs = some (v, p + 1) ∧ v ∈ xs := by
  unfold spec_l1Rd_one.f
  obtain ⟨v, hv, h1, _⟩ := pick k l p (xs.length : Int) hl hlen hp hp2
  have h2 := h1 (by omega)
  rw [hv, Option.bind_some, if_pos h2.1, if_pos h2.2]
  refine ⟨_, rfl, ?_⟩
  unfold rd
  rw [List.getD_eq_getElem?_getD, List.getElem?_eq_getElem (show v.toNat < xs.length by omega)]
  exact List.getElem_mem _
theorem opened (l : List Int) (hl : Bytes l) : ∃ m, spec_l1Open.f l = some (m, 0) ∧ Bytes m ∧ m.length ≤ 2000 := by
  unfold spec_l1Open.f
  by_cases h : (l.length : Int) > 2000
  · rw [if_pos h, if_pos (by omega)]
    refine ⟨_, rfl, ?_, by simp; omega⟩
    intro i
    unfold rd
    by_cases hi : i.toNat < 2000
    · have := hl i
      unfold rd at this
      simpa [List.getD_eq_getElem?_getD, List.getElem?_take, hi] using this
    · simp [List.getD_eq_getElem?_getD, List.getElem?_take, hi]
  · rw [if_neg h]; exact ⟨_, rfl, hl, by omega⟩
theorem mem7 {v a b c d e f g : Int} (h : v ∈ [a, b, c, d, e, f, g]) : v = a ∨ v = b ∨ v = c ∨ v = d ∨ v = e ∨ v = f ∨ v = g := by simpa using h
theorem dec (k : Nat) (hk : 30 ≤ k) (l : List Int) (p : Int) (hl : Bytes l) (hlen : l.length ≤ 2000) (hp : 0 ≤ p) (hp2 : p ≤ 900000) :
    ∃ m e, spec_l14Dec.f k l p = some (m, e, p + 6) ∧ Ok m e := by
  obtain ⟨k, rfl⟩ : ∃ m, k = m + 1 := ⟨k - 1, by omega⟩
  unfold spec_l14Dec.f
  obtain ⟨v1, h1, b1, _⟩ := pick k l p 20 hl hlen hp (by omega)
  obtain ⟨v2, h2, b2, _⟩ := pick k l (p + 1) 256 hl hlen (by omega) (by omega)
  obtain ⟨v3, h3, b3, _⟩ := pick k l (p + 1 + 1) 256 hl hlen (by omega) (by omega)
  obtain ⟨v4, h4, b4, _⟩ := pick k l (p + 1 + 1 + 1) 256 hl hlen (by omega) (by omega)
  have b1 := b1 (by decide)
  have b2 := b2 (by decide)
  have b3 := b3 (by decide)
  have b4 := b4 (by decide)
  rw [h1, Option.bind_some, h2, Option.bind_some, h3, Option.bind_some, h4, Option.bind_some]
  dsimp only
  rw [wrap64_id (x := v2 * 256) (by omega) (by omega), wrap64_id (x := v2 * 256 + v3) (by omega) (by omega), wrap64_id (x := -v4) (by omega) (by omega)]
  obtain ⟨m, h5, b5⟩ := one k l (p + 1 + 1 + 1 + 1) [v1, v2 * 256 + v3, 99999999, 0, -v4, 25, -99999999] hl hlen (by omega) (by omega) (by simp)
  obtain ⟨e, h6, b6⟩ := one k l (p + 1 + 1 + 1 + 1 + 1) [0, 0, -1, -2, 2, -8, 8] hl hlen (by omega) (by omega) (by simp)
  rw [h5, Option.bind_some, h6, Option.bind_some]
  dsimp only
  have b5 := mem7 b5
  have b6 := mem7 b6
  obtain ⟨⟨r1, r2, r3⟩, hr, hA⟩ := spec_new (k + 1) m e (by omega) (by omega) (by omega) (by omega) (by omega)
  rw [hr, Option.bind_some]
  have e6 : p + 1 + 1 + 1 + 1 + 1 + 1 = p + 6 := by omega
  rw [e6]
  cases r3 with
  | true => exact ⟨r1, r2, rfl, hA.form⟩
  | false => exact ⟨1, 0, rfl, by unfold Ok; omega⟩
theorem anydec (k : Nat) (hk : 30 ≤ k) (l : List Int) (p : Int) (hl : Bytes l) (hlen : l.length ≤ 2000) (hp : 0 ≤ p) (hp2 : p ≤ 800000) :
    ∃ m e q, spec_l14AnyDec.f k l p = some (m, e, q) ∧ -100000000 ≤ m ∧ m ≤ 100000000 ∧ -9 ≤ e ∧ e ≤ 9 ∧ 0 ≤ q ∧ q ≤ p + 8 := by
  obtain ⟨m, e, h1, hO⟩ := dec k hk l p hl hlen hp (by omega)
  have lo := ok_low hO
  obtain ⟨k, rfl⟩ : ∃ m, k = m + 1 := ⟨k - 1, by omega⟩
  unfold spec_l14AnyDec.f
  obtain ⟨v, h2, b2, _⟩ := pick k l (p + 6) 20 hl hlen (by omega) (by omega)
  rw [h1, Option.bind_some]
  dsimp only
  rw [h2, Option.bind_some]
  dsimp only
  by_cases c0 : v = 0
  · obtain ⟨x, h3, b3⟩ := one k l (p + 6 + 1) [10, 100000000, -100000000] hl hlen (by omega) (by omega) (by simp)
    rw [if_pos c0, h3, Option.bind_some]
    have b3 : x = 10 ∨ x = 100000000 ∨ x = -100000000 := by simpa using b3
    exact ⟨x, e, _, rfl, by omega, by omega, by omega, by omega, by omega, by dsimp only; omega⟩
  · rw [if_neg c0]
    by_cases c1 : v = 1
    · obtain ⟨x, h3, b3⟩ := one k l (p + 6 + 1) [9, -9] hl hlen (by omega) (by omega) (by simp)
      rw [if_pos c1, h3, Option.bind_some]
      have b3 : x = 9 ∨ x = -9 := by simpa using b3
      exact ⟨m, x, _, rfl, by omega, by omega, by omega, by omega, by dsimp only; omega, by dsimp only; omega⟩
    · rw [if_neg c1]
      exact ⟨m, e, _, rfl, by omega, by omega, by omega, by omega, by omega, by omega⟩
theorem draw2 (k : Nat) (hk : 30 ≤ k) (l : List Int) (hl : Bytes l) :
    ∃ a b c d, spec_DrawDecAdd.f k l = some (a, b, c, d) ∧ (-100000000 ≤ a ∧ a ≤ 100000000 ∧ -9 ≤ b ∧ b ≤ 9) ∧ (-100000000 ≤ c ∧ c ≤ 100000000 ∧ -9 ≤ d ∧ d ≤ 9) := by
  obtain ⟨m, h1, hm, hlen⟩ := opened l hl
  obtain ⟨a, b, q, h2, a1, a2, a3, a4, a5, a6⟩ := anydec k hk m 0 hm hlen (by decide) (by decide)
  obtain ⟨c, d, q2, h3, c1, c2, c3, c4, _, _⟩ := anydec k hk m q hm hlen a5 (by omega)
  unfold spec_DrawDecAdd.f
  rw [h1, Option.bind_some]
  dsimp only
  rw [h2, Option.bind_some]
  dsimp only
  rw [h3, Option.bind_some]
  exact ⟨a, b, c, d, rfl, ⟨a1, a2, a3, a4⟩, ⟨c1, c2, c3, c4⟩⟩
end Go.Proofs.Ytkeddijlbnginaa.Dp
