import Derived.Test.YtjhjdbhbccadfaaDoorNm
import Derived.Test.YtjhjdbhbccadfaaDoorQ5
import Derived.Test.YtjhjdbhbccadfaaDoorQ9
import Derived.Test.YtjhjdbhbccadfaaDoorQ10
import Derived.Test.YtjhjdbhbccadfaaDoorQ11
import Derived.Test.YtjhjdbhbccadfaaDoorQ12
import Derived.Test.YtjhjdbhbccadfaaDoorQ13
import Derived.Test.YtjhjdbhbccadfaaDoorQ23
import Derived.Test.YtjhjdbhbccadfaaDoorQ24
import Derived.Test.YtjhjdbhbccadfaaDoorQ25
namespace Go.Proofs.YtjhjdbhbccadfaaDoor.Np
set_option linter.unusedVariables false
set_option linter.unusedSimpArgs false
open Go.RowKit Go.Proofs.YtjhjdbhbccadfaaDoor.Q Go.Proofs.YtjhjdbhbccadfaaDoor.Evs Go.Proofs.YtjhjdbhbccadfaaDoorW.PrintWords Go.Proofs.YtjhjdbhbccadfaaDoorW.PrintLast
/-! ### rows of papers -/
theorem w1 (i : Nat) (h : i ≤ 1048576) : wrap64 ((i : Int) + 1) = ((i + 1 : Nat) : Int) := by
  rw [w64 _ (by omega)]; omega
theorem sz_one (x : S43) (l : Int) (h0 : 0 ≤ l) (h1 : l ≤ 1048576) (z0 : x.f0.size ≤ 9223372036854775807) (z1 : x.f1.size ≤ 9223372036854775807) :
    ∃ r, laws_szPaper.f x.f0 x.f1 l = some r ∧ r ≤ l ∧ (0 ≤ r → x.f0.size ≤ 1048576 ∧ x.f1.size ≤ 1048576) := by
  unfold laws_szPaper.f
  rw [w64 (l - (x.f0.size : Int)) (by omega)]
  by_cases c : l - (x.f0.size : Int) < 0
  · rw [if_pos c]; exact ⟨-1, rfl, by omega, by omega⟩
  rw [if_neg c, w64 (l - (x.f0.size : Int) - (x.f1.size : Int)) (by omega)]
  by_cases c2 : l - (x.f0.size : Int) - (x.f1.size : Int) < 0
  · rw [if_pos c2]; exact ⟨-1, rfl, by omega, by omega⟩
  rw [if_neg c2]
  exact ⟨_, rfl, by omega, fun _ => by omega⟩
def Small (x : S43) : Prop := x.f0.size ≤ 1048576 ∧ x.f1.size ≤ 1048576
theorem sz_l0 (xs : List S43) (hlen : xs.length ≤ 1048576) (hs : ∀ x, x ∈ xs → x.f0.size ≤ 9223372036854775807 ∧ x.f1.size ≤ 9223372036854775807) :
    ∀ (d i : Nat) (l : Int), i + d = xs.length → 0 ≤ l → l ≤ 1048576 → ∃ r, Evn (fun k => laws_szPaperS.l0 k xs l (i : Int)) r ∧ r ≤ l ∧ (0 ≤ r → ∀ j (hj : j < xs.length), i ≤ j → Small xs[j])
  | 0, i, l, hd, h0, h1 => ⟨l, Evn.step (g' := fun _ => some l) (fun k => by rw [laws_szPaperS.l0, if_neg (by omega)]) (Evn.pure _), by omega, fun _ j hj hij => by omega⟩
  | d + 1, i, l, hd, h0, h1 => by
    have hi : i < xs.length := by omega
    obtain ⟨z0, z1⟩ := hs xs[i] (List.getElem_mem hi)
    obtain ⟨q, eq, hq, hqs⟩ := sz_one xs[i] l h0 h1 z0 z1
    have key : ∀ k, laws_szPaperS.l0 (k + 1) xs l (i : Int) = if q < 0 then some (-1) else laws_szPaperS.l0 k xs q ((i + 1 : Nat) : Int) := by
      intro k
      rw [laws_szPaperS.l0, if_pos (by omega), if_pos (by omega), w1 i (by omega)]
      simp only [rd_T43, getD_nat _ _ _ hi]
      rw [eq, Option.bind_some]
    by_cases c : q < 0
    · exact ⟨-1, Evn.step key (Evn.ite_pos c (Evn.pure _)), by omega, by omega⟩
    · obtain ⟨r, hr, hrl, hsm⟩ := sz_l0 xs hlen hs d (i + 1) q (by omega) (by omega) (by omega)
      refine ⟨r, Evn.step key (Evn.ite_neg c hr), by omega, fun h j hj hij => ?_⟩
      by_cases e : j = i
      · subst e; exact hqs (by omega)
      · exact hsm h j hj (by omega)
theorem sz_ev (xs : List S43) (hlen : xs.length ≤ 9223372036854775807) (hs : ∀ x, x ∈ xs → x.f0.size ≤ 9223372036854775807 ∧ x.f1.size ≤ 9223372036854775807) :
    ∃ r, Evn (fun k => laws_szPaperS.f k xs 1048576) r ∧ (0 ≤ r → xs.length ≤ 1048576 ∧ ∀ x, x ∈ xs → Small x) := by
  have key : ∀ k, laws_szPaperS.f k xs 1048576 = if 1048576 - (xs.length : Int) < 0 then some (-1) else laws_szPaperS.l0 k xs (1048576 - (xs.length : Int)) ((0 : Nat) : Int) := by
    intro k
    rw [laws_szPaperS.f, w64 (1048576 - (xs.length : Int)) (by omega)]; rfl
  by_cases c : 1048576 - (xs.length : Int) < 0
  · exact ⟨-1, Evn.of key (Evn.ite_pos c (Evn.pure _)), by omega⟩
  · obtain ⟨r, hr, hrl, hsm⟩ := sz_l0 xs (by omega) hs xs.length 0 (1048576 - (xs.length : Int)) (by omega) (by omega) (by omega)
    refine ⟨r, Evn.of key (Evn.ite_neg c hr), fun h => ⟨by omega, fun x hx => ?_⟩⟩
    obtain ⟨j, hj, rfl⟩ := List.getElem_of_mem hx
    exact hsm h j hj (by omega)
def conv (x : S43) : S44 := ⟨x.f0, x.f1⟩
theorem to_l0 (xs : List S43) (hlen : xs.length ≤ 1048576) :
    ∀ (d i : Nat) (ys : List S44), i + d = xs.length → ys.length = xs.length → (∀ j (h1 : j < ys.length) (h2 : j < xs.length), j < i → ys[j] = conv xs[j]) → Evn (fun k => laws_toPaperS.l0 k xs ys (i : Int)) (xs.map conv)
  | 0, i, ys, hd, hy, hc => by
    have e : ys = xs.map conv := by
      apply List.ext_getElem (by simp [hy])
      intro j h1 h2
      rw [List.getElem_map]
      exact hc j h1 (by omega) (by omega)
    subst e
    exact Evn.step (g' := fun _ => some (xs.map conv)) (fun k => by rw [laws_toPaperS.l0, if_neg (by omega)]) (Evn.pure _)
  | d + 1, i, ys, hd, hy, hc => by
    have hi : i < xs.length := by omega
    refine Evn.step (fun k => ?_) (to_l0 xs hlen d (i + 1) (ys.set i (conv xs[i])) (by omega) (by simp [hy]) (fun j h1 h2 hj => ?_))
    · rw [laws_toPaperS.l0, if_pos (by omega), if_pos (by omega)]
      simp only [rd_T43, getD_nat _ _ _ hi]
      rw [laws_toPaper.f, Option.bind_some, if_pos (by omega), w1 i (by omega)]
      rfl
    · rw [List.getElem_set]
      by_cases e : i = j
      · subst e; rw [if_pos rfl]
      · rw [if_neg e]; exact hc j (by simpa using h1) h2 (by omega)
theorem to_ev (xs : List S43) (hlen : xs.length ≤ 1048576) : Evn (fun k => laws_toPaperS.f k xs) (xs.map conv) := by
  refine Evn.of (fun k => ?_) (to_l0 xs hlen xs.length 0 (List.replicate xs.length z44) (by omega) (by simp) (fun j _ _ hj => by omega))
  rw [laws_toPaperS.f, if_pos (by omega), if_pos (by omega)]
  rfl
theorem eq_l0 (xs : List S44) (hlen : xs.length ≤ 1048576) :
    ∀ (d i : Nat), i + d = xs.length → Evn (fun k => laws_eqPaperS.l0 k xs xs (i : Int)) true
  | 0, i, hd => Evn.step (g' := fun _ => some true) (fun k => by rw [laws_eqPaperS.l0, if_neg (by omega)]) (Evn.pure _)
  | d + 1, i, hd => by
    refine Evn.step (fun k => ?_) (eq_l0 xs hlen d (i + 1) (by omega))
    rw [laws_eqPaperS.l0, if_pos (by omega), if_pos (by omega), if_pos (by omega), laws_eqPaper.f, if_pos rfl, if_pos rfl, Option.bind_some, if_pos rfl, w1 i (by omega)]
theorem eq_ev (xs : List S44) (hlen : xs.length ≤ 1048576) : Evn (fun k => laws_eqPaperS.f k xs xs) true :=
  Evn.of (fun k => by rw [laws_eqPaperS.f, if_pos rfl]; rfl) (eq_l0 xs hlen xs.length 0 (by omega))
/-! ### are they in order -/
def gt (xs : List S44) (i : Nat) : Bool := if 0 < i then Op.bytesLess (rd_T44 xs ((i - 1 : Nat) : Int)).f0.toList (rd_T44 xs (i : Int)).f0.toList else true
def okB (xs : List S44) (i : Nat) : Bool := Nm.nameB (rd_T44 xs (i : Int)).f0 && (!decide (((rd_T44 xs (i : Int)).f1.size : Int) > 1500) && gt xs i)
def allB (xs : List S44) : Nat → Nat → Bool
  | 0, _ => decide ((xs.length : Int) ≤ 6)
  | d + 1, i => okB xs i && allB xs d (i + 1)
theorem spec_l0 (xs : List S44) (hlen : xs.length ≤ 1048576) (hs : ∀ x, x ∈ xs → x.f0.size ≤ 1048576) :
    ∀ (d i : Nat), i + d = xs.length → Evn (fun k => spec_PapersOk.l0 k xs (i : Int)) (allB xs d i)
  | 0, i, hd => Evn.step (g' := fun _ => some (decide ((xs.length : Int) ≤ 6))) (fun k => by rw [spec_PapersOk.l0, if_neg (by omega)]) (Evn.pure _)
  | d + 1, i, hd => by
    have ih := spec_l0 xs hlen hs d (i + 1) (by omega)
    have hi : i < xs.length := by omega
    have hn : Evn (fun k => spec_NameOk.f k ((rd_T44 xs (i : Int)).f0)) (Nm.nameB (rd_T44 xs (i : Int)).f0) := Nm.spec_ev _ (by
      simp only [rd_T44, getD_nat _ _ _ hi]
      have := hs _ (List.getElem_mem hi); omega)
    have key : ∀ k, spec_PapersOk.l0 (k + 1) xs (i : Int) = (spec_NameOk.f k ((rd_T44 xs (i : Int)).f0)).bind fun t => if t = true then (if ((rd_T44 xs (i : Int)).f1.size : Int) > 1500 then some false else (if gt xs i = true then spec_PapersOk.l0 k xs ((i + 1 : Nat) : Int) else some false)) else some false := by
      intro k
      rw [spec_PapersOk.l0, if_pos (by omega), if_pos (by omega), w1 i (by omega)]
      unfold gt
      by_cases c : 0 < i
      · rw [w64 ((i : Int) - 1) (by omega), show ((i : Int) - 1) = ((i - 1 : Nat) : Int) by omega]
        simp only [if_pos c, if_pos (show (i : Int) > 0 by omega), if_pos (show 0 ≤ ((i - 1 : Nat) : Int) by omega), if_pos (show ((i - 1 : Nat) : Int) < (xs.length : Int) by omega)]
      · simp only [if_neg c, if_neg (show ¬ (i : Int) > 0 by omega), if_true]
    refine Evn.step key (Evn.bind hn ?_)
    show Evn _ (okB xs i && allB xs d (i + 1))
    unfold okB
    by_cases c1 : Nm.nameB (rd_T44 xs (i : Int)).f0 = true
    · rw [c1, Bool.true_and]
      refine Evn.ite_pos rfl ?_
      by_cases c2 : ((rd_T44 xs (i : Int)).f1.size : Int) > 1500
      · rw [decide_eq_true c2, Bool.not_true, Bool.false_and, Bool.false_and]; exact Evn.ite_pos c2 (Evn.pure _)
      · rw [decide_eq_false c2, Bool.not_false, Bool.true_and]
        refine Evn.ite_neg c2 ?_
        by_cases c3 : gt xs i = true
        · rw [c3, Bool.true_and]; exact Evn.ite_pos rfl ih
        · rw [Bool.eq_false_iff.2 c3, Bool.false_and]; exact Evn.ite_neg (by decide) (Evn.pure _)
    · rw [Bool.eq_false_iff.2 c1, Bool.false_and, Bool.false_and]; exact Evn.ite_neg (by decide) (Evn.pure _)
theorem impl_l0 (xs : List S44) (hlen : xs.length ≤ 1048576) (hs : ∀ x, x ∈ xs → x.f0.size ≤ 1048576) :
    ∀ (d i : Nat), i + d = xs.length → Evn (fun k => impl_PapersOk.l0 k xs xs (xs.length : Int) (i : Int) [Nm.words]) (allB xs d i)
  | 0, i, hd => Evn.step (g' := fun _ => some (decide ((xs.length : Int) ≤ 6))) (fun k => by rw [impl_PapersOk.l0, if_neg (by omega)]) (Evn.pure _)
  | d + 1, i, hd => by
    have ih := impl_l0 xs hlen hs d (i + 1) (by omega)
    have hi : i < xs.length := by omega
    have hn : Evn (fun k => impl_NameOk.f k ((rd_T44 xs (i : Int)).f0) [Nm.words]) (Nm.nameB (rd_T44 xs (i : Int)).f0) := Nm.impl_ev _ (by
      simp only [rd_T44, getD_nat _ _ _ hi]
      have := hs _ (List.getElem_mem hi); omega)
    have key : ∀ k, impl_PapersOk.l0 (k + 1) xs xs (xs.length : Int) (i : Int) [Nm.words] = (impl_NameOk.f k ((rd_T44 xs (i : Int)).f0) [Nm.words]).bind fun t => if t = true then (if gt xs i = true then (if ((rd_T44 xs (i : Int)).f1.size : Int) > 1500 then some false else impl_PapersOk.l0 k xs xs (xs.length : Int) ((i + 1 : Nat) : Int) [Nm.words]) else some false) else some false := by
      intro k
      rw [impl_PapersOk.l0, if_pos (by omega), if_pos (by omega), if_pos (by omega), w1 i (by omega)]
      unfold gt
      by_cases c : 0 < i
      · rw [w64 ((i : Int) - 1) (by omega), show ((i : Int) - 1) = ((i - 1 : Nat) : Int) by omega]
        simp only [if_pos c, if_pos (show (i : Int) > 0 by omega), if_pos (show 0 ≤ ((i - 1 : Nat) : Int) by omega), if_pos (show ((i - 1 : Nat) : Int) < (xs.length : Int) by omega)]
      · simp only [if_neg c, if_neg (show ¬ (i : Int) > 0 by omega), if_true]
    refine Evn.step key (Evn.bind hn ?_)
    show Evn _ (okB xs i && allB xs d (i + 1))
    unfold okB
    by_cases c1 : Nm.nameB (rd_T44 xs (i : Int)).f0 = true
    · rw [c1, Bool.true_and]
      refine Evn.ite_pos rfl ?_
      by_cases c3 : gt xs i = true
      · rw [c3, Bool.and_true]
        refine Evn.ite_pos rfl ?_
        by_cases c2 : ((rd_T44 xs (i : Int)).f1.size : Int) > 1500
        · rw [decide_eq_true c2, Bool.not_true, Bool.false_and]; exact Evn.ite_pos c2 (Evn.pure _)
        · rw [decide_eq_false c2, Bool.not_false, Bool.true_and]; exact Evn.ite_neg c2 ih
      · rw [Bool.eq_false_iff.2 c3, Bool.and_false, Bool.false_and]; exact Evn.ite_neg (by decide) (Evn.pure _)
    · rw [Bool.eq_false_iff.2 c1, Bool.false_and, Bool.false_and]; exact Evn.ite_neg (by decide) (Evn.pure _)
theorem papers_ev (xs : List S43) (hlen : xs.length ≤ 9223372036854775807) (hs : ∀ x, x ∈ xs → x.f0.size ≤ 9223372036854775807 ∧ x.f1.size ≤ 9223372036854775807) : Evn (fun k => laws_FnExactPapersOk.f k xs [Nm.words]) true := by
  unfold laws_FnExactPapersOk.f
  obtain ⟨r, hr, hok⟩ := sz_ev xs hlen hs
  refine Evn.bind hr ?_
  by_cases c : r < 0
  · exact Evn.ite_pos c (Evn.pure _)
  obtain ⟨hl, hsm⟩ := hok (by omega)
  have hl2 : (xs.map conv).length ≤ 1048576 := by simpa using hl
  have hs2 : ∀ x, x ∈ xs.map conv → x.f0.size ≤ 1048576 := by
    intro x hx
    obtain ⟨y, hy, rfl⟩ := List.mem_map.1 hx
    exact (hsm y hy).1
  have ht := to_ev xs hl
  refine Evn.ite_neg c (Evn.bind ht ?_)
  refine Evn.bind (spec_l0 _ hl2 hs2 (xs.map conv).length 0 (by omega)) ?_
  refine Evn.bind ht (Evn.bind (impl_l0 _ hl2 hs2 (xs.map conv).length 0 (by omega)) (Evn.ite_neg (by simp) (Evn.bind ht (Evn.bind (eq_ev _ hl2) (Evn.ite_pos rfl (Evn.pure _))))))
end Go.Proofs.YtjhjdbhbccadfaaDoor.Np
