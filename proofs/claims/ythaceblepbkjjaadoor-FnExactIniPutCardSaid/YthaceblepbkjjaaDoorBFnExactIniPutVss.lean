import Derived.Test.YthaceblepbkjjaaDoorBFnExactIniPutEv
import Derived.Test.YthaceblepbkjjaaDoorBFnExactIniPutq4
namespace Go.Proofs.YthaceblepbkjjaaDoor.Ss
set_option linter.unusedVariables false
set_option linter.unusedSimpArgs false
open Go.RowKit Go.Proofs.YthaceblepbkjjaaDoor.Q Go.Proofs.YthaceblepbkjjaaDoor.Evs Go.Proofs.YthaceblepbkjjaaDoorW.PrintWords Go.Proofs.YthaceblepbkjjaaDoorW.PrintLast

/-! Rows of texts. -/
theorem w1 (i : Nat) (h : i ≤ 1048576) : wrap64 ((i : Int) + 1) = ((i + 1 : Nat) : Int) := by
 rw [w64 _ (by omega)]; omega
theorem sz_l0 (xs : List ByteArray) (hlen : xs.length ≤ 1048576) (hs : ∀ x, x ∈ xs → x.size ≤ 9223372036854775807) :
  ∀ (d i : Nat) (l : Int), i + d = xs.length → 0 ≤ l → l ≤ 1048576 → ∃ r, Evn (fun k => laws_szStringS.l0 k xs l (i : Int)) r ∧ r ≤ l
 | 0, i, l, hd, h0, h1 => ⟨l, Evn.step (g' := fun _ => some l) (fun k => by rw [laws_szStringS.l0, if_neg (by omega)]) (Evn.pure _), by omega⟩
 | d + 1, i, l, hd, h0, h1 => by
  have hi : i < xs.length := by omega
  have hz := hs xs[i] (List.getElem_mem hi)
  have key : ∀ k, laws_szStringS.l0 (k + 1) xs l (i : Int) = if l - (xs[i].size : Int) < 0 then some (-1) else laws_szStringS.l0 k xs (l - (xs[i].size : Int)) ((i + 1 : Nat) : Int) := by
   intro k
   rw [laws_szStringS.l0, if_pos (by omega), if_pos (by omega), w1 i (by omega)]
   simp only [rdOf, getD_nat _ _ _ hi]
   rw [w64 (l - (xs[i].size : Int)) (by omega)]
  by_cases c : l - (xs[i].size : Int) < 0
  ·exact ⟨-1, Evn.step key (Evn.ite_pos c (Evn.pure _)), by omega⟩
  ·obtain ⟨r, hr, hrl⟩ := sz_l0 xs hlen hs d (i + 1) (l - (xs[i].size : Int)) (by omega) (by omega) (by omega)
   exact ⟨r, Evn.step key (Evn.ite_neg c hr), by omega⟩
theorem sz_ev (xs : List ByteArray) (hlen : xs.length ≤ 9223372036854775807) (hs : ∀ x, x ∈ xs → x.size ≤ 9223372036854775807) (l : Int) (h0 : 0 ≤ l) (h1 : l ≤ 1048576) :
  ∃ r, Evn (fun k => laws_szStringS.f k xs l) r ∧ r ≤ l ∧ (0 ≤ r → xs.length ≤ 1048576) := by
 have key : ∀ k, laws_szStringS.f k xs l = if l - (xs.length : Int) < 0 then some (-1) else laws_szStringS.l0 k xs (l - (xs.length : Int)) ((0 : Nat) : Int) := by
  intro k
  rw [laws_szStringS.f, w64 (l - (xs.length : Int)) (by omega)]; rfl
 by_cases c : l - (xs.length : Int) < 0
 ·exact ⟨-1, Evn.of key (Evn.ite_pos c (Evn.pure _)), by omega, by omega⟩
 ·obtain ⟨r, hr, hrl⟩ := sz_l0 xs (by omega) hs xs.length 0 (l - (xs.length : Int)) (by omega) (by omega) (by omega)
  exact ⟨r, Evn.of key (Evn.ite_neg c hr), by omega, fun _ => by omega⟩
theorem to_l0 (xs : List ByteArray) (hlen : xs.length ≤ 1048576) :
  ∀ (d i : Nat) (ys : List ByteArray), i + d = xs.length → ys.length = xs.length → ∃ r, Evn (fun k => laws_toStringS.l0 k xs ys (i : Int)) r ∧ r.length = xs.length
 | 0, i, ys, hd, hy => ⟨ys, Evn.step (g' := fun _ => some ys) (fun k => by rw [laws_toStringS.l0, if_neg (by omega)]) (Evn.pure _), hy⟩
 | d + 1, i, ys, hd, hy => by
  obtain ⟨r, hr, hrl⟩ := to_l0 xs hlen d (i + 1) (ys.set i (rdOf ByteArray.empty xs (i : Int))) (by omega) (by simp [hy])
  refine ⟨r, Evn.step (fun k => ?_) hr, hrl⟩
  rw [laws_toStringS.l0, if_pos (by omega), if_pos (by omega), if_pos (by omega), w1 i (by omega)]
  rfl
theorem to_ev (xs : List ByteArray) (hlen : xs.length ≤ 1048576) : ∃ r, Evn (fun k => laws_toStringS.f k xs) r ∧ r.length ≤ 1048576 := by
 obtain ⟨r, hr, hrl⟩ := to_l0 xs hlen xs.length 0 (List.replicate xs.length (⟨#[]⟩ : ByteArray)) (by omega) (by simp)
 refine ⟨r, Evn.of (fun k => ?_) hr, by omega⟩
 rw [laws_toStringS.f, if_pos (by omega), if_pos (by omega)]
 rfl
theorem eq_l0 (xs : List ByteArray) (hlen : xs.length ≤ 1048576) :
  ∀ (d i : Nat), i + d = xs.length → Evn (fun k => laws_eqStringS.l0 k xs xs (i : Int)) true
 | 0, i, hd => Evn.step (g' := fun _ => some true) (fun k => by rw [laws_eqStringS.l0, if_neg (by omega)]) (Evn.pure _)
 | d + 1, i, hd => by
  refine Evn.step (fun k => ?_) (eq_l0 xs hlen d (i + 1) (by omega))
  rw [laws_eqStringS.l0, if_pos (by omega), if_pos (by omega), if_pos (by omega), if_pos rfl, w1 i (by omega)]
theorem eq_ev (xs : List ByteArray) (hlen : xs.length ≤ 1048576) : Evn (fun k => laws_eqStringS.f k xs xs) true :=
 Evn.of (fun k => by rw [laws_eqStringS.f, if_pos rfl]; rfl) (eq_l0 xs hlen xs.length 0 (by omega))
end Go.Proofs.YthaceblepbkjjaaDoor.Ss
