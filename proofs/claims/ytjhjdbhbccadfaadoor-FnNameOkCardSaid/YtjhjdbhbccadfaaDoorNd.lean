import Derived.Test.YtjhjdbhbccadfaaDoorNm
import Derived.Laws.BitsLemmas
import Derived.Test.YtjhjdbhbccadfaaDoorQ4
import Derived.Test.YtjhjdbhbccadfaaDoorQ8
import Derived.Test.YtjhjdbhbccadfaaDoorQ21
import Derived.Test.YtjhjdbhbccadfaaDoorQ22
import Derived.Test.YtjhjdbhbccadfaaDoorQ31
namespace Go.Proofs.YtjhjdbhbccadfaaDoor.Nd
set_option linter.unusedVariables false
set_option linter.unusedSimpArgs false
open Go.RowKit Go.Proofs.YtjhjdbhbccadfaaDoor.Q Go.Proofs.YtjhjdbhbccadfaaDoor.Evs Go.Proofs.YtjhjdbhbccadfaaDoorW.PrintWords Go.Proofs.YtjhjdbhbccadfaaDoorW.PrintLast
/-! ### what is drawn -/
theorem wrap64_id {x : Int} (h1 : -9223372036854775808 ≤ x) (h2 : x ≤ 9223372036854775807) : wrap64 x = x := w64 x ⟨h1, h2⟩
theorem xor_low (a b : Int) (ha : 0 ≤ a) (hb : 0 ≤ b) (ha2 : a < 4611686018427387904) (hb2 : b < 4611686018427387904) : 0 ≤ Go.bits .xor .i64 a b := by
  obtain ⟨x, rfl⟩ := Int.eq_ofNat_of_zero_le ha
  obtain ⟨y, rfl⟩ := Int.eq_ofNat_of_zero_le hb
  have hx : x < 2 ^ 62 := by omega
  have hy : y < 2 ^ 62 := by omega
  have h := Nat.xor_lt_two_pow hx hy
  have hx' : x % 2 ^ IntKind.i64.bits = x := Nat.mod_eq_of_lt (by simp [IntKind.bits]; omega)
  have hy' : y % 2 ^ IntKind.i64.bits = y := Nat.mod_eq_of_lt (by simp [IntKind.bits]; omega)
  simp only [Go.bits, BitVec.ofInt_natCast, BitVec.toNat_xor, BitVec.toNat_ofNat, hx', hy']
  rw [IntKind.wrap_i64]
  omega
def Bytes (l : List Int) : Prop := ∀ i, 0 ≤ rd l i ∧ rd l i ≤ 255
theorem bytes_of {l : List Int} (h : ∀ x ∈ l, (Lit.int .u8 x).wf = true) : Bytes l := by
  intro i
  unfold rd
  by_cases hi : i.toNat < l.length
  · have := h _ (List.getElem_mem hi)
    simp [Lit.wf, IntKind.min, IntKind.max, IntKind.signed, IntKind.bits] at this
    simp [List.getD_eq_getElem?_getD, List.getElem?_eq_getElem hi]
    omega
  · rw [List.getD_eq_getElem?_getD, List.getElem?_eq_none (by omega)]; simp
theorem tmod_low {x n : Int} (hx : 0 ≤ x) (hn : 0 < n) : 0 ≤ Int.tmod x n ∧ Int.tmod x n < n := by
  rw [Int.tmod_eq_emod_of_nonneg hx]
  exact ⟨Int.emod_nonneg _ (by omega), Int.emod_lt_of_pos _ hn⟩
theorem pick (k : Nat) (l : List Int) (p n : Int) (hl : Bytes l) (hlen : l.length ≤ 2000) (hp : 0 ≤ p) (hp2 : p ≤ 1000000) :
    ∃ v, spec_l1Rd_pick.f (k + 1) l p n = some (v, p + 1) ∧ (1 ≤ n → 0 ≤ v ∧ v < n) ∧ (n < 1 → v = 0) := by
  unfold spec_l1Rd_pick.f
  rw [wrap64_id (x := p + 1) (by omega) (by omega)]
  by_cases hn : n < 1
  · rw [if_pos hn, spec_l1Rd_pick.j0, if_pos rfl]; exact ⟨0, rfl, by omega, fun _ => rfl⟩
  rw [if_neg hn]
  by_cases h0 : (l.length : Int) = 0
  · rw [spec_l1Rd_pick.j0, if_pos (by rw [h0]; rfl)]; exact ⟨0, rfl, by omega, fun _ => rfl⟩
  rw [spec_l1Rd_pick.j0, if_neg (by rw [beq_false_of_ne h0]; decide), show p + 1 - 1 = p by omega, wrap64_id (x := p) (by omega) (by omega)]
  by_cases h1 : p < (l.length : Int)
  · rw [if_pos h1, if_pos hp, if_neg (by omega)]
    have hb := hl p
    rw [wrap64_id (by omega) (by omega)]
    have := tmod_low (x := rd l p) (n := n) (by omega) (by omega)
    exact ⟨_, rfl, fun _ => this, by omega⟩
  · have t1 := tmod_low (x := p) (n := (l.length : Int)) hp (by omega)
    rw [if_neg h1, if_neg h0, if_pos t1.1, if_pos t1.2, wrap64_id (x := p * 7) (by omega) (by omega), wrap64_id (x := p * 7 + 3) (by omega) (by omega)]
    have t2 := tmod_low (x := p * 7 + 3) (n := (l.length : Int)) (by omega) (by omega)
    rw [if_pos t2.1, if_pos t2.2, if_neg (by omega)]
    have b1 := hl (Int.tmod p l.length)
    have b2 := hl (Int.tmod (p * 7 + 3) l.length)
    have t3 : 0 ≤ Int.tdiv p l.length ∧ Int.tdiv p l.length ≤ p := by
      rw [Int.tdiv_eq_ediv_of_nonneg hp]; exact ⟨Int.ediv_nonneg hp (by omega), Int.ediv_le_self _ hp⟩
    generalize rd l (Int.tmod p l.length) = y1 at *
    generalize rd l (Int.tmod (p * 7 + 3) l.length) = y2 at *
    generalize Int.tdiv p l.length = y3 at *
    rw [wrap64_id (x := y1) (by omega) (by omega), wrap64_id (x := y2) (by omega) (by omega), wrap64_id (x := y3) (by omega) (by omega), wrap64_id (x := y1 * 131) (by omega) (by omega), wrap64_id (x := y2 * 1117) (by omega) (by omega), wrap64_id (x := p * 29) (by omega) (by omega), wrap64_id (x := y3 * 53) (by omega) (by omega),
      wrap64_id (x := y1 * 131 + y2 * 1117) (by omega) (by omega), wrap64_id (x := y1 * 131 + y2 * 1117 + p * 29) (by omega) (by omega), wrap64_id (x := y1 * 131 + y2 * 1117 + p * 29 + y3 * 53) (by omega) (by omega), Int.tdiv_eq_ediv_of_nonneg (by omega)]
    generalize hz : y1 * 131 + y2 * 1117 + p * 29 + y3 * 53 = z
    rw [wrap64_id (x := z / 64) (by omega) (by omega)]
    have := tmod_low (x := Go.bits .xor .i64 z (z / 64)) (n := n) (xor_low _ _ (by omega) (by omega) (by omega) (by omega)) (by omega)
    exact ⟨_, rfl, fun _ => this, by omega⟩
theorem pick_ev (l : List Int) (p n : Int) (hl : Bytes l) (hlen : l.length ≤ 2000) (hp : 0 ≤ p) (hp2 : p ≤ 1000000) :
    ∃ v, Evn (fun k => spec_l1Rd_pick.f k l p n) (v, p + 1) ∧ (1 ≤ n → 0 ≤ v ∧ v < n) ∧ (n < 1 → v = 0) := by
  obtain ⟨v, hv, h1, h2⟩ := pick 0 l p n hl hlen hp hp2
  refine ⟨v, ⟨1, fun k hk => ?_⟩, h1, h2⟩
  obtain ⟨j, rfl⟩ : ∃ j, k = j + 1 := ⟨k - 1, by omega⟩
  obtain ⟨v', hv', _, _⟩ := pick j l p n hl hlen hp hp2
  have mono : ∀ j, ∃ u, spec_l1Rd_pick.f (j + 1) l p n = some u ∧ spec_l1Rd_pick.f 1 l p n = some u := by
    intro j
    induction j with
    | zero => exact ⟨_, hv, hv⟩
    | succ j ih =>
      obtain ⟨u, e1, e2⟩ := ih
      exact ⟨u, spec_l1Rd_pick.mono _ _ _ _ _ e1, e2⟩
  obtain ⟨u, e1, e2⟩ := mono j
  rw [hv] at e2
  show spec_l1Rd_pick.f (j + 1) l p n = _
  rw [e1, ← e2]
def drawn : List ByteArray := [(⟨#[97]⟩ : ByteArray), (⟨#[120, 49]⟩ : ByteArray), (⟨#[95]⟩ : ByteArray), (⟨#[49, 120]⟩ : ByteArray), (⟨#[65]⟩ : ByteArray), (⟨#[]⟩ : ByteArray), (⟨#[97, 98, 99, 100, 101, 102, 103, 104, 105, 106, 107, 108]⟩ : ByteArray), (⟨#[97, 98, 99, 100, 101, 102, 103, 104, 105, 106, 107, 108, 109]⟩ : ByteArray), (⟨#[110, 117, 108, 108]⟩ : ByteArray), (⟨#[115, 116, 100]⟩ : ByteArray), (⟨#[110, 117, 108, 108, 115]⟩ : ByteArray), (⟨#[115, 101, 108, 102]⟩ : ByteArray)]
theorem names_of (l : List Int) (hl : ∀ x ∈ l, (Lit.int .u8 x).wf = true) (hlen : l.length ≤ 1048576) : ∃ t, Evn (fun k => spec_DrawNameOk.f k l) t ∧ t ∈ drawn := by
  have hopen : ∃ l2 : List Int, spec_l1Open.f l = some (l2, 0) ∧ Bytes l2 ∧ l2.length ≤ 2000 := by
    unfold spec_l1Open.f
    by_cases c : (l.length : Int) > 2000
    · rw [if_pos c, if_pos (by omega)]
      exact ⟨l.take 2000, rfl, bytes_of fun x hx => hl x (List.mem_of_mem_take hx), by rw [List.length_take]; omega⟩
    · rw [if_neg c]
      exact ⟨l, rfl, bytes_of hl, by omega⟩
  obtain ⟨l2, e2, hb, hl2⟩ := hopen
  obtain ⟨v, hv, hr, _⟩ := pick_ev l2 0 12 hb hl2 (by omega) (by omega)
  have hr' := hr (by omega)
  have hlt : v.toNat < drawn.length := by show v.toNat < 12; omega
  refine ⟨drawn[v.toNat], ?_, List.getElem_mem hlt⟩
  unfold spec_DrawNameOk.f
  refine Evn.bind (a := (l2, (0 : Int))) (Evn.of (fun _ => e2) (Evn.pure _)) ?_
  refine Evn.bind (a := (drawn[v.toNat], (0 : Int) + 1)) ?_ (Evn.pure _)
  unfold spec_l1Rd_of.f
  refine Evn.bind hv ?_
  refine Evn.ite_pos (show 0 ≤ v by omega) (Evn.ite_pos (show v < 12 by omega) ?_)
  have e : rdOf ByteArray.empty drawn v = drawn[v.toNat] := by
    unfold rdOf
    rw [List.getD_eq_getElem?_getD, List.getElem?_eq_getElem hlt]
    rfl
  rw [← e]
  exact Evn.pure _
def goodB (t : ByteArray) : Bool := !Nm.nameB t || (decide (1 ≤ t.size ∧ t.size ≤ 12) && (decide (t.size = 12) || Nm.nameB ((⟨#[113]⟩ : ByteArray) ++ t)))
theorem sizes : ∀ t ∈ drawn, t.size ≤ 13 := by decide +kernel
theorem good : ∀ t ∈ drawn, goodB t = true := by decide +kernel
theorem name_ev (l : List Int) (hl : ∀ x ∈ l, (Lit.int .u8 x).wf = true) : Evn (fun k => laws_FnNameOk.f k l [Nm.words]) true := by
  unfold laws_FnNameOk.f
  by_cases c : (l.length : Int) > 1048576
  · exact Evn.ite_pos c (Evn.pure _)
  obtain ⟨t, ht, hm⟩ := names_of l hl (by omega)
  have hs := sizes t hm
  have hg := good t hm
  have hq : ((⟨#[113]⟩ : ByteArray) ++ t).size ≤ 14 := by rw [ByteArray.size_append]; show 1 + t.size ≤ 14; omega
  refine Evn.ite_neg c (Evn.bind ht (Evn.bind (Nm.impl_ev t (by omega)) (Evn.bind (Nm.spec_ev t (by omega)) (Evn.ite_neg (by simp) (Evn.ite_pos (by omega) (Evn.bind (Nm.impl_ev _ (by omega)) (Evn.bind (Nm.spec_ev _ (by omega)) (Evn.ite_neg (by simp) ?_))))))))
  by_cases c1 : Nm.nameB t = true
  · unfold goodB at hg
    rw [c1] at hg ⊢
    simp only [Bool.not_true, Bool.false_or, Bool.and_eq_true, decide_eq_true_eq, Bool.or_eq_true] at hg
    refine Evn.ite_pos rfl (Evn.ite_pos (by omega) (Evn.ite_pos (by omega) ?_))
    by_cases c2 : (t.size : Int) = 12
    · exact Evn.ite_pos c2 (Evn.pure _)
    · have h3 : Nm.nameB ((⟨#[113]⟩ : ByteArray) ++ t) = true := by
        rcases hg.2 with h | h
        · exact absurd h (by omega)
        · exact h
      refine Evn.ite_neg c2 ?_
      rw [h3]
      exact Evn.pure _
  · exact Evn.ite_neg c1 (Evn.pure _)
end Go.Proofs.YtjhjdbhbccadfaaDoor.Nd
