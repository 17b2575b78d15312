import Derived.Test.YtoajejdicfabmaaDoorBFnValueCmpVo
namespace Go.Proofs.YtoajejdicfabmaaDoor.Lk
set_option linter.unusedVariables false
set_option linter.unusedSimpArgs false
open Go.RowKit Go.Proofs.YtoajejdicfabmaaDoor.Q Go.Proofs.YtoajejdicfabmaaDoor.Evs Go.Proofs.YtoajejdicfabmaaDoor.Th Go.Proofs.YtoajejdicfabmaaDoor.Tv Go.Proofs.YtoajejdicfabmaaDoor.Vo Go.Proofs.YtoajejdicfabmaaDoorW.PrintWords Go.Proofs.YtoajejdicfabmaaDoorW.PrintLast
theorem Evn.uniq {α : Type} {g : Nat → Option α} {a b : α} (h : Evn g a) (h' : Evn g b) : a = b := by
 obtain ⟨n, h⟩ := h
 obtain ⟨m, h'⟩ := h'
 have := (h (n + m) (by omega)).symm.trans (h' (n + m) (by omega))
 exact Option.some.inj this
def ss : Nat → S33 → Int
 | 0, _ => 0
 | n + 1, z => z.f3.foldl (fun a y => wrap64 (a + ss n y)) 1
theorem iS_l0 (n : Nat) (xs : List S33) (hlen : xs.length ≤ 1048576) (ih : ∀ y, y ∈ xs → Evn (fun k => iS k y) (ss n y)) :
  ∀ (d i : Nat) (m : Int), i + d = xs.length → Evn (fun k => impl_ValueSize.l0 k m xs (xs.length : Int) (i : Int)) ((xs.drop i).foldl (fun a y => wrap64 (a + ss n y)) m)
 | 0, i, m, hd => by
  rw [List.drop_eq_nil_of_le (by omega)]
  exact Evn.step (g' := fun _ => some m) (fun k => by rw [impl_ValueSize.l0, if_neg (by omega)]) (Evn.pure _)
 | d + 1, i, m, hd => by
  have hi : i < xs.length := by omega
  have key' : ∀ k, impl_ValueSize.l0 (k + 1) m xs (xs.length : Int) (i : Int) = (iS k xs[i]).bind fun t => impl_ValueSize.l0 k (wrap64 (m + t)) xs (xs.length : Int) ((i + 1 : Nat) : Int) := by
   intro k
   rw [impl_ValueSize.l0, if_pos (by omega), if_pos (by omega), if_pos (by omega), w1 i (by omega)]
   simp only [rd_T33, getD_nat _ _ _ hi]
  rw [Vo.drop_get xs i hi]
  exact Evn.step key' (Evn.bind (ih _ (List.getElem_mem hi)) (iS_l0 n xs hlen ih d (i + 1) _ (by omega)))
theorem iS_ev : ∀ (n : Nat) (x : S33), Lo n x → Evn (fun k => iS k x) (ss n x)
 | 0, _, hf => hf.elim
 | n + 1, x, ⟨hl, hk, _⟩ => by
  have h := iS_l0 n x.f3 hl (fun y hy => iS_ev n y (hk y hy)) x.f3.length 0 1 (by omega)
  rw [List.drop_zero] at h
  exact Evn.step (fun k => by show impl_ValueSize.f (k + 1) _ _ _ _ _ _ = _; rw [impl_ValueSize.f]; rfl) h
theorem sS_ev (n : Nat) (x : S33) (h : Lo n x) : Evn (fun k => sS k x) (ss n x) := by
 obtain ⟨r, h1, h2⟩ := Tv.size_ev n x h
 rw [Evn.uniq (iS_ev n x h) h2]
 exact h1
def rok (n : Nat) (z : S33) : Bool := decide (ss n z ≤ 200) && (decide (dp n z ≤ 20) && A n z)
theorem ok2_ev (n : Nat) (hn : n ≤ 2000000) (z : S33) (h : Lo n z) : Evn (fun k => spec_ValueOk.f k z.f0 z.f1.f0 z.f1.f1 z.f2 z.f3 z.f4) (rok n z) ∧ Evn (fun k => impl_ValueOk.f k z.f0 z.f1.f0 z.f1.f1 z.f2 z.f3 z.f4 [Nm.words]) (rok n z) := by
 have ht := sS_ev n z h
 have ht' := iS_ev n z h
 unfold rok
 generalize ss n z = t at *
 have hd := deep_ev n z hn h
 have ha := all_ev n z h
 have hv := vk_ev n 20 z (by omega) h
 rw [I_eq n 20 z h] at hv
 constructor
 ·unfold spec_ValueOk.f
  refine Evn.bind ht ?_
  by_cases c : t ≤ 200
  ·rw [decide_eq_true c, Bool.true_and]
   refine Evn.ite_pos c (Evn.bind hd ?_)
   by_cases c2 : dp n z ≤ 20
   ·rw [decide_eq_true c2, Bool.true_and]
    exact Evn.ite_pos (by omega) (Evn.bind ha (Evn.pure _))
   ·rw [decide_eq_false c2, Bool.false_and]
    exact Evn.ite_neg (by omega) (Evn.pure _)
  ·rw [decide_eq_false c, Bool.false_and]
   exact Evn.ite_neg c (Evn.pure _)
 ·unfold impl_ValueOk.f
  rw [Bool.and_comm (decide (dp n z ≤ 20)), Bool.and_comm]
  refine Evn.bind hv ?_
  by_cases c : (A n z && decide (dp n z ≤ 20)) = true
  ·rw [c, Bool.true_and]
   exact Evn.ite_pos rfl (Evn.bind ht' (Evn.pure _))
  ·rw [Bool.eq_false_iff.2 c, Bool.false_and]
   exact Evn.ite_neg (by decide) (Evn.pure _)
end Go.Proofs.YtoajejdicfabmaaDoor.Lk
