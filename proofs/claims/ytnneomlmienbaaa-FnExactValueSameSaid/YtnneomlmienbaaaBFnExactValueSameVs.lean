import Derived.Test.YtnneomlmienbaaaBFnExactValueSameTv
import Derived.Test.YtnneomlmienbaaaBFnExactValueSameq5
namespace Go.Proofs.Ytnneomlmienbaaa.Tv
set_option linter.unusedVariables false
set_option linter.unusedSimpArgs false
open Go.RowKit Go.Proofs.Ytnneomlmienbaaa.Q Go.Proofs.Ytnneomlmienbaaa.Evs Go.Proofs.YtnneomlmienbaaaW.PrintWords Go.Proofs.YtnneomlmienbaaaW.PrintLast

/-! ### ValueSame -/
theorem same_l1 (a b c : Int) (s : ByteArray) (ns : List ByteArray) (a' b' c' : Int) (s' : ByteArray) (ns' : List ByteArray) (xs ys : List S45) (hlen : xs.length ≤ 1048576) (hxy : ys.length = xs.length) (ih : ∀ y, y ∈ xs → ∀ z, z ∈ ys → ∃ r, Evn (fun k => sE k y z) r ∧ Evn (fun k => iE k y z) r) :
    ∀ (d i : Nat), i + d = xs.length → ∃ r, Evn (fun k => spec_ValueSame.l1 k (i : Int) a b c s xs ns a' b' c' s' ys ns') r ∧ Evn (fun k => impl_Value_at_ValueSame.l0 k ys xs (xs.length : Int) (i : Int)) r
  | 0, i, hd => ⟨true, Evn.step (g' := fun _ => some true) (fun k => by rw [spec_ValueSame.l1, if_neg (by omega)]) (Evn.pure _), Evn.step (g' := fun _ => some true) (fun k => by rw [impl_Value_at_ValueSame.l0, if_neg (by omega)]) (Evn.pure _)⟩
  | d + 1, i, hd => by
    have hi : i < xs.length := by omega
    have hj : i < ys.length := by omega
    obtain ⟨t, ht, ht'⟩ := ih xs[i] (List.getElem_mem hi) ys[i] (List.getElem_mem hj)
    have key : ∀ k, spec_ValueSame.l1 (k + 1) (i : Int) a b c s xs ns a' b' c' s' ys ns' = (sE k xs[i] ys[i]).bind fun t => if t = true then spec_ValueSame.l1 k ((i + 1 : Nat) : Int) a b c s xs ns a' b' c' s' ys ns' else some false := by
      intro k
      rw [spec_ValueSame.l1, if_pos (by omega), if_pos (by omega), if_pos (by omega), w1 i (by omega)]
      simp only [rd_T45, getD_nat _ _ _ hi, getD_nat _ _ _ hj]
    have key' : ∀ k, impl_Value_at_ValueSame.l0 (k + 1) ys xs (xs.length : Int) (i : Int) = (iE k xs[i] ys[i]).bind fun t => if t = true then impl_Value_at_ValueSame.l0 k ys xs (xs.length : Int) ((i + 1 : Nat) : Int) else some false := by
      intro k
      rw [impl_Value_at_ValueSame.l0, if_pos (by omega), if_pos (by omega), if_pos (by omega), if_pos (by omega), w1 i (by omega)]
      simp only [rd_T45, getD_nat _ _ _ hi, getD_nat _ _ _ hj]
    by_cases ct : t = true
    · obtain ⟨r, hr, hr'⟩ := same_l1 a b c s ns a' b' c' s' ns' xs ys hlen hxy ih d (i + 1) (by omega)
      exact ⟨r, Evn.step key (Evn.bind ht (Evn.ite_pos ct hr)), Evn.step key' (Evn.bind ht' (Evn.ite_pos ct hr'))⟩
    · exact ⟨false, Evn.step key (Evn.bind ht (Evn.ite_neg ct (Evn.pure _))), Evn.step key' (Evn.bind ht' (Evn.ite_neg ct (Evn.pure _)))⟩
/-- the names: like, and the reference goes on to the items; or not like -/
theorem names_l0 (a b c : Int) (s : ByteArray) (ns : List ByteArray) (a' b' c' : Int) (s' : ByteArray) (ns' : List ByteArray) (xs ys : List S45) (hlen : ns.length ≤ 1048576) (hxy : ns'.length = ns.length) :
    ∀ (d i : Nat), i + d = ns.length →
      (Evn (fun k => slices_Equal_string_string.l0 k ns ns' (ns.length : Int) (i : Int)) true ∧ ∀ r, Evn (fun k => spec_ValueSame.l1 k 0 a b c s xs ns a' b' c' s' ys ns') r → Evn (fun k => spec_ValueSame.l0 k (i : Int) a b c s xs ns a' b' c' s' ys ns') r) ∨
      (Evn (fun k => slices_Equal_string_string.l0 k ns ns' (ns.length : Int) (i : Int)) false ∧ Evn (fun k => spec_ValueSame.l0 k (i : Int) a b c s xs ns a' b' c' s' ys ns') false)
  | 0, i, hd => .inl ⟨Evn.step (g' := fun _ => some true) (fun k => by rw [slices_Equal_string_string.l0, if_neg (by omega)]) (Evn.pure _), fun r h => Evn.step (fun k => by rw [spec_ValueSame.l0, if_neg (by omega)]) h⟩
  | d + 1, i, hd => by
    by_cases c : (rdOf ByteArray.empty ns (i : Int)).toList = (rdOf ByteArray.empty ns' (i : Int)).toList
    case neg =>
      exact .inr ⟨Evn.step (g' := fun _ => some false) (fun k => by rw [slices_Equal_string_string.l0, if_pos (by omega), if_pos (by omega), if_pos (by omega), if_pos (by omega), if_neg c]) (Evn.pure _),
        Evn.step (g' := fun _ => some false) (fun k => by rw [spec_ValueSame.l0, if_pos (by omega), if_pos (by omega), if_pos (by omega), if_neg c]) (Evn.pure _)⟩
    have key : ∀ k, slices_Equal_string_string.l0 (k + 1) ns ns' (ns.length : Int) (i : Int) = slices_Equal_string_string.l0 k ns ns' (ns.length : Int) ((i + 1 : Nat) : Int) := fun k => by
      rw [slices_Equal_string_string.l0, if_pos (by omega), if_pos (by omega), if_pos (by omega), if_pos (by omega), if_pos c, w1 i (by omega)]
    rcases names_l0 a b _ s ns a' b' c' s' ns' xs ys hlen hxy d (i + 1) (by omega) with ⟨h1, h2⟩ | ⟨h1, h2⟩
    · refine .inl ⟨Evn.step key h1, fun r h => Evn.step (fun k => ?_) (h2 r h)⟩
      rw [spec_ValueSame.l0, if_pos (by omega), if_pos (by omega), if_pos (by omega), if_pos c, w1 i (by omega)]
    · refine .inr ⟨Evn.step key h1, Evn.step (fun k => ?_) h2⟩
      rw [spec_ValueSame.l0, if_pos (by omega), if_pos (by omega), if_pos (by omega), if_pos c, w1 i (by omega)]
theorem same_ev : ∀ (n : Nat) (x : S45), Lo n x → ∀ (m : Nat) (y : S45), Lo m y → ∃ r, Evn (fun k => sE k x y) r ∧ Evn (fun k => iE k x y) r
  | 0, _, hf, _, _, _ => hf.elim
  | _ + 1, _, _, 0, _, hg => hg.elim
  | n + 1, x, ⟨hl, hk, hn⟩, m + 1, y, ⟨gl, gk, gn⟩ => by
    have bad : ∀ (g : Nat → Option Bool), (∀ k, g k = spec_ValueSame.j0 k true x.f0 x.f1.f0 x.f1.f1 x.f2 x.f3 x.f4 y.f0 y.f1.f0 y.f1.f1 y.f2 y.f3 y.f4) → Evn g false := fun g h =>
      Evn.of h (Evn.step (g' := fun _ => some false) (fun k => by rw [spec_ValueSame.j0, if_pos rfl]) (Evn.pure _))
    by_cases c1 : x.f0 = y.f0
    case neg =>
      exact ⟨false, Evn.step (fun k => by show spec_ValueSame.f (k + 1) _ _ _ _ _ _ _ _ _ _ _ _ = _; rw [spec_ValueSame.f, if_neg c1]) (bad _ (fun k => rfl)),
        Evn.step (g' := fun _ => some false) (fun k => by show impl_ValueSame.f (k + 1) _ _ _ _ _ _ _ _ _ _ _ _ = _; rw [impl_ValueSame.f, if_neg c1]) (Evn.pure _)⟩
    by_cases c3 : (x.f1.f0 == y.f1.f0 && (x.f1.f1 == y.f1.f1)) = true
    case neg =>
      have c3' : (!(x.f1.f0 == y.f1.f0) || (!(x.f1.f1 == y.f1.f1))) = true := by
        revert c3
        cases (x.f1.f0 == y.f1.f0) <;> cases (x.f1.f1 == y.f1.f1) <;> simp
      exact ⟨false, Evn.step (fun k => by show spec_ValueSame.f (k + 1) _ _ _ _ _ _ _ _ _ _ _ _ = _; rw [spec_ValueSame.f, if_pos c1, if_pos c3']) (bad _ (fun k => rfl)),
        Evn.step (g' := fun _ => some false) (fun k => by show impl_ValueSame.f (k + 1) _ _ _ _ _ _ _ _ _ _ _ _ = _; rw [impl_ValueSame.f, if_pos c1, if_neg c3]) (Evn.pure _)⟩
    have c3' : ¬ (!(x.f1.f0 == y.f1.f0) || (!(x.f1.f1 == y.f1.f1))) = true := by
      revert c3
      cases (x.f1.f0 == y.f1.f0) <;> cases (x.f1.f1 == y.f1.f1) <;> simp
    by_cases c2 : x.f2.toList = y.f2.toList
    case neg =>
      exact ⟨false, Evn.step (fun k => by show spec_ValueSame.f (k + 1) _ _ _ _ _ _ _ _ _ _ _ _ = _; rw [spec_ValueSame.f, if_pos c1, if_neg c3', if_neg c2]) (bad _ (fun k => rfl)),
        Evn.step (g' := fun _ => some false) (fun k => by show impl_ValueSame.f (k + 1) _ _ _ _ _ _ _ _ _ _ _ _ = _; rw [impl_ValueSame.f, if_pos c1, if_pos c3, if_neg c2]) (Evn.pure _)⟩
    have key' : ∀ k, iE (k + 1) x y = (slices_Equal_string_string.f k x.f4 y.f4).bind fun t => if t = true then (impl_Value_at_ValueSame.f k x.f3 y.f3).bind fun t => some t else some false := by
      intro k
      show impl_ValueSame.f (k + 1) _ _ _ _ _ _ _ _ _ _ _ _ = _
      rw [impl_ValueSame.f, if_pos c1, if_pos c3, if_pos c2]
    -- the names' answer, whatever the items
    have names : ∀ (hxy : y.f4.length = x.f4.length),
        (Evn (fun k => slices_Equal_string_string.f k x.f4 y.f4) true ∧ ∀ r, Evn (fun k => spec_ValueSame.l1 k 0 x.f0 x.f1.f0 x.f1.f1 x.f2 x.f3 x.f4 y.f0 y.f1.f0 y.f1.f1 y.f2 y.f3 y.f4) r → Evn (fun k => spec_ValueSame.l0 k 0 x.f0 x.f1.f0 x.f1.f1 x.f2 x.f3 x.f4 y.f0 y.f1.f0 y.f1.f1 y.f2 y.f3 y.f4) r) ∨
        (Evn (fun k => slices_Equal_string_string.f k x.f4 y.f4) false ∧ Evn (fun k => spec_ValueSame.l0 k 0 x.f0 x.f1.f0 x.f1.f1 x.f2 x.f3 x.f4 y.f0 y.f1.f0 y.f1.f1 y.f2 y.f3 y.f4) false) := by
      intro hxy
      have e : ∀ k, slices_Equal_string_string.f k x.f4 y.f4 = slices_Equal_string_string.l0 k x.f4 y.f4 (x.f4.length : Int) ((0 : Nat) : Int) := fun k => by
        rw [slices_Equal_string_string.f, if_pos (by omega)]; rfl
      rcases names_l0 x.f0 x.f1.f0 x.f1.f1 x.f2 x.f4 y.f0 y.f1.f0 y.f1.f1 y.f2 y.f4 x.f3 y.f3 hn hxy x.f4.length 0 (by omega) with ⟨h1, h2⟩ | ⟨h1, h2⟩
      · exact .inl ⟨Evn.of e h1, h2⟩
      · exact .inr ⟨Evn.of e h1, h2⟩
    by_cases c4 : (x.f3.length : Int) = (y.f3.length : Int)
    case neg =>
      have hs : Evn (fun k => sE k x y) false := Evn.step (fun k => by show spec_ValueSame.f (k + 1) _ _ _ _ _ _ _ _ _ _ _ _ = _; rw [spec_ValueSame.f, if_pos c1, if_neg c3', if_pos c2, if_neg c4]) (bad _ (fun k => rfl))
      have hi0 : Evn (fun k => impl_Value_at_ValueSame.f k x.f3 y.f3) false := Evn.step (g' := fun _ => some false) (fun k => by rw [impl_Value_at_ValueSame.f, if_neg c4]) (Evn.pure _)
      by_cases c5 : (x.f4.length : Int) = (y.f4.length : Int)
      · rcases names (by omega) with ⟨h1, _⟩ | ⟨h1, _⟩
        · exact ⟨false, hs, Evn.step key' (Evn.bind h1 (Evn.ite_pos rfl (Evn.bind hi0 (Evn.pure _))))⟩
        · exact ⟨false, hs, Evn.step key' (Evn.bind h1 (Evn.ite_neg (by decide) (Evn.pure _)))⟩
      · exact ⟨false, hs, Evn.step key' (Evn.bind (Evn.of (g' := fun _ => some false) (fun k => by rw [slices_Equal_string_string.f, if_neg c5]) (Evn.pure _)) (Evn.ite_neg (by decide) (Evn.pure _)))⟩
    have key : ∀ k, sE (k + 1) x y = spec_ValueSame.j0 k ((x.f4.length : Int) != (y.f4.length : Int)) x.f0 x.f1.f0 x.f1.f1 x.f2 x.f3 x.f4 y.f0 y.f1.f0 y.f1.f1 y.f2 y.f3 y.f4 := by
      intro k
      show spec_ValueSame.f (k + 1) _ _ _ _ _ _ _ _ _ _ _ _ = _
      rw [spec_ValueSame.f, if_pos c1, if_neg c3', if_pos c2, if_pos c4]
    by_cases c5 : (x.f4.length : Int) = (y.f4.length : Int)
    case neg =>
      have c5' : ((x.f4.length : Int) != (y.f4.length : Int)) = true := bne_iff_ne.2 c5
      rw [c5'] at key
      exact ⟨false, Evn.step key (bad _ (fun k => rfl)), Evn.step key' (Evn.bind (Evn.of (g' := fun _ => some false) (fun k => by rw [slices_Equal_string_string.f, if_neg c5]) (Evn.pure _)) (Evn.ite_neg (by decide) (Evn.pure _)))⟩
    have c5' : ((x.f4.length : Int) != (y.f4.length : Int)) = false := by rw [c5]; exact bne_self_eq_false _
    rw [c5'] at key
    have key3 : ∀ k, spec_ValueSame.j0 (k + 1) false x.f0 x.f1.f0 x.f1.f1 x.f2 x.f3 x.f4 y.f0 y.f1.f0 y.f1.f1 y.f2 y.f3 y.f4 = spec_ValueSame.l0 k 0 x.f0 x.f1.f0 x.f1.f1 x.f2 x.f3 x.f4 y.f0 y.f1.f0 y.f1.f1 y.f2 y.f3 y.f4 := fun k => by
      rw [spec_ValueSame.j0, if_neg (by decide)]
    rcases names (by omega) with ⟨h1, h2⟩ | ⟨h1, h2⟩
    · obtain ⟨r, hr, hr'⟩ := same_l1 x.f0 x.f1.f0 x.f1.f1 x.f2 x.f4 y.f0 y.f1.f0 y.f1.f1 y.f2 y.f4 x.f3 y.f3 hl (by omega) (fun u hu v hv => same_ev n u (hk u hu) m v (gk v hv)) x.f3.length 0 (by omega)
      exact ⟨r, Evn.step key (Evn.step key3 (h2 r hr)), Evn.step key' (Evn.bind h1 (Evn.ite_pos rfl (Evn.bind (Evn.step (fun k => by rw [impl_Value_at_ValueSame.f, if_pos c4]; rfl) hr') (Evn.pure _))))⟩
    · exact ⟨false, Evn.step key (Evn.step key3 h2), Evn.step key' (Evn.bind h1 (Evn.ite_neg (by decide) (Evn.pure _)))⟩

theorem FnExactValueSize (n : Nat) (x : S40) (hf : Fine n x) : ∃ k, laws_FnExactValueSize.f k x.f0 x.f1.f0 x.f1.f1 x.f2 x.f3 x.f4 = some true := by
  refine Evn.at ?_
  obtain ⟨r, hr, _, hL⟩ := sz_ev n x hf 1048576 (by decide) (by decide)
  by_cases c : r < 0
  · exact Evn.bind hr (Evn.ite_pos c (Evn.pure _))
  obtain ⟨z, hz, hzL⟩ := to_ev n x (hL (by omega))
  obtain ⟨t, ht, ht'⟩ := size_ev n z hzL
  exact Evn.bind hr (Evn.ite_neg c (Evn.bind hz (Evn.bind ht (Evn.bind hz (Evn.bind ht' (Evn.ite_pos rfl (Evn.bind hz (Evn.bind (eq_ev n z hzL) (Evn.ite_pos rfl (Evn.pure _))))))))))
theorem FnExactValueSame (n : Nat) (x : S40) (hf : Fine n x) (m : Nat) (y : S40) (hg : Fine m y) : ∃ k, laws_FnExactValueSame.f k x.f0 x.f1.f0 x.f1.f1 x.f2 x.f3 x.f4 y.f0 y.f1.f0 y.f1.f1 y.f2 y.f3 y.f4 = some true := by
  refine Evn.at ?_
  obtain ⟨r, hr, hrl, hL⟩ := sz_ev n x hf 1048576 (by decide) (by decide)
  by_cases c : r < 0
  · exact Evn.bind hr (Evn.ite_pos c (Evn.pure _))
  obtain ⟨q, hq, _, gL⟩ := sz_ev m y hg r (by omega) (by omega)
  by_cases c2 : q < 0
  · exact Evn.bind hr (Evn.ite_neg c (Evn.bind hq (Evn.ite_pos c2 (Evn.pure _))))
  obtain ⟨z, hz, hzL⟩ := to_ev n x (hL (by omega))
  obtain ⟨u, hu, huL⟩ := to_ev m y (gL (by omega))
  obtain ⟨t, ht, ht'⟩ := same_ev n z hzL m u huL
  exact Evn.bind hr (Evn.ite_neg c (Evn.bind hq (Evn.ite_neg c2 (Evn.bind hz (Evn.bind hu (Evn.bind ht (Evn.bind hz (Evn.bind hu (Evn.bind ht' (Evn.ite_neg (by cases t <;> decide) (Evn.bind hz (Evn.bind (eq_ev n z hzL) (Evn.ite_pos rfl (Evn.bind hu (Evn.bind (eq_ev m u huL) (Evn.ite_pos rfl (Evn.pure _)))))))))))))))))
end Go.Proofs.Ytnneomlmienbaaa.Tv
