import Derived.Test.YtnneomlmienbaaaTn
import Derived.Test.YtnneomlmienbaaaQ5
namespace Go.Proofs.Ytnneomlmienbaaa.Tn
set_option linter.unusedVariables false
set_option linter.unusedSimpArgs false
open Go.RowKit Go.Proofs.Ytnneomlmienbaaa.Q Go.Proofs.Ytnneomlmienbaaa.Evs Go.Proofs.YtnneomlmienbaaaW.PrintWords Go.Proofs.YtnneomlmienbaaaW.PrintLast

/-! ### TreeSame -/
theorem same_l0 (a b c : Int) (s : ByteArray) (a' b' c' : Int) (s' : ByteArray) (xs ys : List S32) (hlen : xs.length ≤ 1048576) (hxy : ys.length = xs.length) (ih : ∀ y, y ∈ xs → ∀ z, z ∈ ys → ∃ r, Evn (fun k => sE k y z) r ∧ Evn (fun k => iE k y z) r) :
    ∀ (d i : Nat), i + d = xs.length → ∃ r, Evn (fun k => spec_TreeSame.l0 k (i : Int) a s b c xs a' s' b' c' ys) r ∧ Evn (fun k => impl_Node_at_TreeSame.l0 k ys xs (xs.length : Int) (i : Int)) r
  | 0, i, hd => ⟨true, Evn.step (g' := fun _ => some true) (fun k => by rw [spec_TreeSame.l0, if_neg (by omega)]) (Evn.pure _), Evn.step (g' := fun _ => some true) (fun k => by rw [impl_Node_at_TreeSame.l0, if_neg (by omega)]) (Evn.pure _)⟩
  | d + 1, i, hd => by
    have hi : i < xs.length := by omega
    have hj : i < ys.length := by omega
    obtain ⟨t, ht, ht'⟩ := ih xs[i] (List.getElem_mem hi) ys[i] (List.getElem_mem hj)
    have key : ∀ k, spec_TreeSame.l0 (k + 1) (i : Int) a s b c xs a' s' b' c' ys = (sE k xs[i] ys[i]).bind fun t => if t = true then spec_TreeSame.l0 k ((i + 1 : Nat) : Int) a s b c xs a' s' b' c' ys else some false := by
      intro k
      rw [spec_TreeSame.l0, if_pos (by omega), if_pos (by omega), if_pos (by omega), w1 i (by omega)]
      simp only [rd_T32, getD_nat _ _ _ hi, getD_nat _ _ _ hj]
    have key' : ∀ k, impl_Node_at_TreeSame.l0 (k + 1) ys xs (xs.length : Int) (i : Int) = (iE k xs[i] ys[i]).bind fun t => if t = true then impl_Node_at_TreeSame.l0 k ys xs (xs.length : Int) ((i + 1 : Nat) : Int) else some false := by
      intro k
      rw [impl_Node_at_TreeSame.l0, if_pos (by omega), if_pos (by omega), if_pos (by omega), if_pos (by omega), w1 i (by omega)]
      simp only [rd_T32, getD_nat _ _ _ hi, getD_nat _ _ _ hj]
    by_cases ct : t = true
    · obtain ⟨r, hr, hr'⟩ := same_l0 a b c s a' b' c' s' xs ys hlen hxy ih d (i + 1) (by omega)
      exact ⟨r, Evn.step key (Evn.bind ht (Evn.ite_pos ct hr)), Evn.step key' (Evn.bind ht' (Evn.ite_pos ct hr'))⟩
    · exact ⟨false, Evn.step key (Evn.bind ht (Evn.ite_neg ct (Evn.pure _))), Evn.step key' (Evn.bind ht' (Evn.ite_neg ct (Evn.pure _)))⟩
theorem same_ev : ∀ (n : Nat) (x : S32), Lo n x → ∀ (m : Nat) (y : S32), Lo m y → ∃ r, Evn (fun k => sE k x y) r ∧ Evn (fun k => iE k x y) r
  | 0, _, hf, _, _, _ => hf.elim
  | _ + 1, _, _, 0, _, hg => hg.elim
  | n + 1, x, ⟨hl, hk⟩, m + 1, y, ⟨gl, gk⟩ => by
    have bad : ∀ (g : Nat → Option Bool), (∀ k, g k = spec_TreeSame.j0 k true x.f0 x.f1 x.f2.f0 x.f2.f1 x.f3 y.f0 y.f1 y.f2.f0 y.f2.f1 y.f3) → Evn g false := fun g h =>
      Evn.of h (Evn.step (g' := fun _ => some false) (fun k => by rw [spec_TreeSame.j0, if_pos rfl]) (Evn.pure _))
    by_cases c1 : x.f0 = y.f0
    case neg =>
      exact ⟨false, Evn.step (fun k => by show spec_TreeSame.f (k + 1) _ _ _ _ _ _ _ _ _ _ = _; rw [spec_TreeSame.f, if_neg c1]) (bad _ (fun k => rfl)),
        Evn.step (g' := fun _ => some false) (fun k => by show impl_TreeSame.f (k + 1) _ _ _ _ _ _ _ _ _ _ = _; rw [impl_TreeSame.f, if_neg c1]) (Evn.pure _)⟩
    by_cases c2 : x.f1.toList = y.f1.toList
    case neg =>
      exact ⟨false, Evn.step (fun k => by show spec_TreeSame.f (k + 1) _ _ _ _ _ _ _ _ _ _ = _; rw [spec_TreeSame.f, if_pos c1, if_neg c2]) (bad _ (fun k => rfl)),
        Evn.step (g' := fun _ => some false) (fun k => by show impl_TreeSame.f (k + 1) _ _ _ _ _ _ _ _ _ _ = _; rw [impl_TreeSame.f, if_pos c1, if_neg c2]) (Evn.pure _)⟩
    by_cases c3 : (x.f2.f0 == y.f2.f0 && (x.f2.f1 == y.f2.f1)) = true
    case neg =>
      have c3' : (!(x.f2.f0 == y.f2.f0) || (!(x.f2.f1 == y.f2.f1))) = true := by
        revert c3
        cases (x.f2.f0 == y.f2.f0) <;> cases (x.f2.f1 == y.f2.f1) <;> simp
      exact ⟨false, Evn.step (fun k => by show spec_TreeSame.f (k + 1) _ _ _ _ _ _ _ _ _ _ = _; rw [spec_TreeSame.f, if_pos c1, if_pos c2, if_pos c3']) (bad _ (fun k => rfl)),
        Evn.step (g' := fun _ => some false) (fun k => by show impl_TreeSame.f (k + 1) _ _ _ _ _ _ _ _ _ _ = _; rw [impl_TreeSame.f, if_pos c1, if_pos c2, if_neg c3]) (Evn.pure _)⟩
    have c3' : ¬ (!(x.f2.f0 == y.f2.f0) || (!(x.f2.f1 == y.f2.f1))) = true := by
      revert c3
      cases (x.f2.f0 == y.f2.f0) <;> cases (x.f2.f1 == y.f2.f1) <;> simp
    have key : ∀ k, sE (k + 1) x y = spec_TreeSame.j0 k ((x.f3.length : Int) != (y.f3.length : Int)) x.f0 x.f1 x.f2.f0 x.f2.f1 x.f3 y.f0 y.f1 y.f2.f0 y.f2.f1 y.f3 := by
      intro k
      show spec_TreeSame.f (k + 1) _ _ _ _ _ _ _ _ _ _ = _
      rw [spec_TreeSame.f, if_pos c1, if_pos c2, if_neg c3']
    have key' : ∀ k, iE (k + 1) x y = (impl_Node_at_TreeSame.f k x.f3 y.f3).bind fun t => some t := by
      intro k
      show impl_TreeSame.f (k + 1) _ _ _ _ _ _ _ _ _ _ = _
      rw [impl_TreeSame.f, if_pos c1, if_pos c2, if_pos c3]
    by_cases c4 : (x.f3.length : Int) = (y.f3.length : Int)
    case neg =>
      have c4' : ((x.f3.length : Int) != (y.f3.length : Int)) = true := bne_iff_ne.2 c4
      rw [c4'] at key
      exact ⟨false, Evn.step key (bad _ (fun k => rfl)), Evn.step key' (Evn.bind (Evn.step (g' := fun _ => some false) (fun k => by rw [impl_Node_at_TreeSame.f, if_neg c4]) (Evn.pure _)) (Evn.pure _))⟩
    have c4' : ((x.f3.length : Int) != (y.f3.length : Int)) = false := by rw [c4]; exact bne_self_eq_false _
    rw [c4'] at key
    obtain ⟨r, hr, hr'⟩ := same_l0 x.f0 x.f2.f0 x.f2.f1 x.f1 y.f0 y.f2.f0 y.f2.f1 y.f1 x.f3 y.f3 hl (by omega) (fun u hu v hv => same_ev n u (hk u hu) m v (gk v hv)) x.f3.length 0 (by omega)
    exact ⟨r, Evn.step key (Evn.step (fun k => by rw [spec_TreeSame.j0, if_neg (by decide)]; rfl) hr), Evn.step key' (Evn.bind (Evn.step (fun k => by rw [impl_Node_at_TreeSame.f, if_pos c4]; rfl) hr') (Evn.pure _))⟩

theorem FnExactTreeSame (n : Nat) (x : S26) (hf : Fine n x) (m : Nat) (y : S26) (hg : Fine m y) : ∃ k, laws_FnExactTreeSame.f k x.f0 x.f1 x.f2.f0 x.f2.f1 x.f3 y.f0 y.f1 y.f2.f0 y.f2.f1 y.f3 = some true := by
  refine Evn.at ?_
  obtain ⟨r, hr, hrl, hL⟩ := sz_ev n x hf 1048576 (by decide) (by decide)
  by_cases c : r < 0
  · exact Evn.bind hr (Evn.ite_pos c (Evn.pure _))
  obtain ⟨q, hq, _, gL⟩ := sz_ev m y hg r (by omega) (by omega)
  by_cases c2 : q < 0
  · exact Evn.bind hr (Evn.ite_neg c (Evn.bind hq (Evn.ite_pos c2 (Evn.pure _))))
  obtain ⟨z, hz, hzL⟩ := to_ev n x (hL (by omega))
  obtain ⟨u, hu, huL⟩ := to_ev m y (gL (by omega))
  obtain ⟨t, ht, ht'⟩ := same_ev n z hzL m u huL
  exact Evn.bind hr (Evn.ite_neg c (Evn.bind hq (Evn.ite_neg c2 (Evn.bind hz (Evn.bind hu (Evn.bind ht (Evn.bind hz (Evn.bind hu (Evn.bind ht' (Evn.ite_neg (by cases t <;> decide) (Evn.bind hz (Evn.bind (eq_ev n z hzL) (Evn.ite_pos rfl (Evn.bind hu (Evn.bind (eq_ev m u huL) (Evn.ite_pos rfl (Evn.pure _)))))))))))))))))
end Go.Proofs.Ytnneomlmienbaaa.Tn
