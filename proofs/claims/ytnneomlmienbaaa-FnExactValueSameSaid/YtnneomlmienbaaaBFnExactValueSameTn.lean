import Derived.Test.YtnneomlmienbaaaBFnExactValueSameEv
import Derived.Test.YtnneomlmienbaaaBFnExactValueSameq5
namespace Go.Proofs.Ytnneomlmienbaaa.Tn
set_option linter.unusedVariables false
set_option linter.unusedSimpArgs false
open Go.RowKit Go.Proofs.Ytnneomlmienbaaa.Q Go.Proofs.Ytnneomlmienbaaa.Evs Go.Proofs.YtnneomlmienbaaaW.PrintWords Go.Proofs.YtnneomlmienbaaaW.PrintLast

/-! Trees: what the printed functions answer, by the depth of the tree. -/
def Fine : Nat → S26 → Prop
  | 0, _ => False
  | n + 1, x => x.f1.size ≤ 9223372036854775807 ∧ x.f3.length ≤ 9223372036854775807 ∧ ∀ y, y ∈ x.f3 → Fine n y
def Low : Nat → S26 → Prop
  | 0, _ => False
  | n + 1, x => x.f3.length ≤ 1048576 ∧ ∀ y, y ∈ x.f3 → Low n y
def Lo : Nat → S32 → Prop
  | 0, _ => False
  | n + 1, x => x.f3.length ≤ 1048576 ∧ ∀ y, y ∈ x.f3 → Lo n y
theorem w1 (i : Nat) (h : i ≤ 1048576) : wrap64 ((i : Int) + 1) = ((i + 1 : Nat) : Int) := by
  rw [w64 _ (by omega)]; omega
abbrev sz (k : Nat) (x : S26) (l : Int) := laws_szNode.f k x.f0 x.f1 x.f2.f0 x.f2.f1 x.f3 l
abbrev cp (k : Nat) (x : S26) := laws_toNode.f k x.f0 x.f1 x.f2.f0 x.f2.f1 x.f3
abbrev eq (k : Nat) (x y : S32) := laws_eqNode.f k x.f0 x.f1 x.f2.f0 x.f2.f1 x.f3 y.f0 y.f1 y.f2.f0 y.f2.f1 y.f3
abbrev sS (k : Nat) (x : S32) := spec_TreeSize.f k x.f0 x.f1 x.f2.f0 x.f2.f1 x.f3
abbrev iS (k : Nat) (x : S32) := impl_TreeSize.f k x.f0 x.f1 x.f2.f0 x.f2.f1 x.f3
abbrev sD (k : Nat) (x : S32) := spec_TreeDeep.f k x.f0 x.f1 x.f2.f0 x.f2.f1 x.f3
abbrev iD (k : Nat) (x : S32) := impl_TreeDeep.f k x.f0 x.f1 x.f2.f0 x.f2.f1 x.f3
abbrev sE (k : Nat) (x y : S32) := spec_TreeSame.f k x.f0 x.f1 x.f2.f0 x.f2.f1 x.f3 y.f0 y.f1 y.f2.f0 y.f2.f1 y.f3
abbrev iE (k : Nat) (x y : S32) := impl_TreeSame.f k x.f0 x.f1 x.f2.f0 x.f2.f1 x.f3 y.f0 y.f1 y.f2.f0 y.f2.f1 y.f3
abbrev tup (y : S32) : Int × ByteArray × Int × Int × List S32 := (y.f0, y.f1, y.f2.f0, y.f2.f1, y.f3)

/-! ### the budget -/
theorem sz_l0 {n : Nat} (xs : List S26) (hlen : xs.length ≤ 1048576) (ih : ∀ y, y ∈ xs → ∀ l : Int, 0 ≤ l → l ≤ 1048576 → ∃ r, Evn (fun k => sz k y l) r ∧ r ≤ l ∧ (0 ≤ r → Low n y)) :
    ∀ (d i : Nat) (l : Int), i + d = xs.length → 0 ≤ l → l ≤ 1048576 → ∃ r, Evn (fun k => laws_szNodeS.l0 k xs l (i : Int)) r ∧ r ≤ l ∧ (0 ≤ r → ∀ j (h : j < xs.length), i ≤ j → Low n xs[j])
  | 0, i, l, hd, h0, h1 => ⟨l, Evn.step (g' := fun _ => some l) (fun k => by rw [laws_szNodeS.l0, if_neg (by omega)]) (Evn.pure _), by omega, fun _ j h hj => by omega⟩
  | d + 1, i, l, hd, h0, h1 => by
    have hi : i < xs.length := by omega
    obtain ⟨t, ht, htl, htL⟩ := ih xs[i] (List.getElem_mem hi) l h0 h1
    have key : ∀ k, laws_szNodeS.l0 (k + 1) xs l (i : Int) = (sz k xs[i] l).bind fun t => if t < 0 then some (-1) else laws_szNodeS.l0 k xs t ((i + 1 : Nat) : Int) := by
      intro k
      rw [laws_szNodeS.l0, if_pos (by omega), if_pos (by omega), w1 i (by omega)]
      simp only [rd_T26, getD_nat _ _ _ hi]
    by_cases c : t < 0
    · exact ⟨-1, Evn.step key (Evn.bind ht (Evn.ite_pos c (Evn.pure _))), by omega, by omega⟩
    · obtain ⟨r, hr, hrl, hrL⟩ := sz_l0 xs hlen ih d (i + 1) t (by omega) (by omega) (by omega)
      refine ⟨r, Evn.step key (Evn.bind ht (Evn.ite_neg c hr)), by omega, fun hr0 j h hj => ?_⟩
      rcases Nat.lt_or_ge i j with hlt | hge
      · exact hrL hr0 j h (by omega)
      · obtain rfl : j = i := by omega
        exact htL (by omega)
theorem sz_ev : ∀ (n : Nat) (x : S26), Fine n x → ∀ l : Int, 0 ≤ l → l ≤ 1048576 → ∃ r, Evn (fun k => sz k x l) r ∧ r ≤ l ∧ (0 ≤ r → Low n x)
  | 0, _, hf, _, _, _ => hf.elim
  | n + 1, x, ⟨hs, hl, hk⟩, l, h0, h1 => by
    have e1 : wrap64 (l - (x.f1.size : Int)) = l - (x.f1.size : Int) := w64 _ (by omega)
    have key : ∀ k, sz (k + 1) x l = if l - (x.f1.size : Int) < 0 then some (-1) else (laws_szNodeS.f k x.f3 (l - (x.f1.size : Int))).bind fun t => if t < 0 then some (-1) else some t := by
      intro k
      show laws_szNode.f (k + 1) _ _ _ _ _ _ = _
      rw [laws_szNode.f, e1]
    by_cases c : l - (x.f1.size : Int) < 0
    · exact ⟨-1, Evn.step key (Evn.ite_pos c (Evn.pure _)), by omega, by omega⟩
    generalize hm : l - (x.f1.size : Int) = m at key c
    have e2 : wrap64 (m - (x.f3.length : Int)) = m - (x.f3.length : Int) := w64 _ (by omega)
    have key2 : ∀ k, laws_szNodeS.f (k + 1) x.f3 m = if m - (x.f3.length : Int) < 0 then some (-1) else laws_szNodeS.l0 k x.f3 (m - (x.f3.length : Int)) ((0 : Nat) : Int) := by
      intro k
      rw [laws_szNodeS.f, e2]; rfl
    by_cases c2 : m - (x.f3.length : Int) < 0
    · exact ⟨-1, Evn.step key (Evn.ite_neg c (Evn.bind (Evn.step key2 (Evn.ite_pos c2 (Evn.pure _))) (Evn.ite_pos (by decide) (Evn.pure _)))), by omega, by omega⟩
    obtain ⟨r, hr, hrl, hrL⟩ := sz_l0 (n := n) x.f3 (by omega) (fun y hy => sz_ev n y (hk y hy)) x.f3.length 0 (m - (x.f3.length : Int)) (by omega) (by omega) (by omega)
    by_cases c3 : r < 0
    · exact ⟨-1, Evn.step key (Evn.ite_neg c (Evn.bind (Evn.step key2 (Evn.ite_neg c2 hr)) (Evn.ite_pos c3 (Evn.pure _)))), by omega, by omega⟩
    · refine ⟨r, Evn.step key (Evn.ite_neg c (Evn.bind (Evn.step key2 (Evn.ite_neg c2 hr)) (Evn.ite_neg c3 (Evn.pure _)))), by omega, fun h => ⟨by omega, fun y hy => ?_⟩⟩
      obtain ⟨j, hj, rfl⟩ := List.getElem_of_mem hy
      exact hrL h j hj (by omega)

/-! ### the copy -/
theorem to_l0 {n : Nat} (xs : List S26) (hlen : xs.length ≤ 1048576) (ih : ∀ y, y ∈ xs → ∃ z, Evn (fun k => cp k y) (tup z) ∧ Lo n z) :
    ∀ (d i : Nat) (ys : List S32), i + d = xs.length → ys.length = xs.length → (∀ j (h : j < ys.length), j < i → Lo n ys[j]) → ∃ r, Evn (fun k => laws_toNodeS.l0 k xs ys (i : Int)) r ∧ r.length = xs.length ∧ ∀ z, z ∈ r → Lo n z
  | 0, i, ys, hd, hy, hL => ⟨ys, Evn.step (g' := fun _ => some ys) (fun k => by rw [laws_toNodeS.l0, if_neg (by omega)]) (Evn.pure _), hy, fun z hz => by
      obtain ⟨j, hj, rfl⟩ := List.getElem_of_mem hz
      exact hL j hj (by omega)⟩
  | d + 1, i, ys, hd, hy, hL => by
    have hi : i < xs.length := by omega
    obtain ⟨z, hz, hzL⟩ := ih xs[i] (List.getElem_mem hi)
    have key : ∀ k, laws_toNodeS.l0 (k + 1) xs ys (i : Int) = (cp k xs[i]).bind fun b => laws_toNodeS.l0 k xs (ys.set i (⟨b.1, b.2.1, (⟨b.2.2.1, b.2.2.2.1⟩ : S29), b.2.2.2.2⟩ : S32)) ((i + 1 : Nat) : Int) := by
      intro k
      rw [laws_toNodeS.l0, if_pos (by omega), if_pos (by omega), w1 i (by omega)]
      simp only [rd_T26, getD_nat _ _ _ hi]
      rw [Int.toNat_natCast]
      exact congrArg (Option.bind _) (funext fun b => if_pos (by omega))
    obtain ⟨r, hr, hrl, hrL⟩ := to_l0 (n := n) xs hlen ih d (i + 1) (ys.set i z) (by omega) (by simp [hy]) (fun j h hj => by
      rw [List.getElem_set]
      split
      · exact hzL
      · exact hL j (by simpa using h) (by omega))
    have ez : (⟨z.f0, z.f1, (⟨z.f2.f0, z.f2.f1⟩ : S29), z.f3⟩ : S32) = z := by
      cases z with
      | mk a b c d => cases c; rfl
    rw [← ez] at hr
    exact ⟨r, Evn.step key (Evn.bind hz hr), hrl, hrL⟩
theorem to_ev : ∀ (n : Nat) (x : S26), Low n x → ∃ z, Evn (fun k => cp k x) (tup z) ∧ Lo n z
  | 0, _, hf => hf.elim
  | n + 1, x, ⟨hl, hk⟩ => by
    have key : ∀ k, cp (k + 1) x = (laws_toNodeS.f k x.f3).bind fun t => some (x.f0, x.f1, x.f2.f0, x.f2.f1, t) := by
      intro k
      show laws_toNode.f (k + 1) _ _ _ _ _ = _
      rw [laws_toNode.f]
      simp only [laws_toDec.f, Option.bind_some]
    have key2 : ∀ k, laws_toNodeS.f (k + 1) x.f3 = laws_toNodeS.l0 k x.f3 (List.replicate x.f3.length z32) ((0 : Nat) : Int) := by
      intro k
      rw [laws_toNodeS.f, if_pos (by omega), if_pos (by omega)]
      rfl
    obtain ⟨r, hr, hrl, hrL⟩ := to_l0 (n := n) x.f3 hl (fun y hy => to_ev n y (hk y hy)) x.f3.length 0 (List.replicate x.f3.length z32) (by omega) (by simp) (fun j h hj => by omega)
    exact ⟨⟨x.f0, x.f1, ⟨x.f2.f0, x.f2.f1⟩, r⟩, Evn.step key (Evn.bind (Evn.step key2 hr) (Evn.pure _)), (by show r.length ≤ _; omega), hrL⟩

/-! ### a tree is like itself -/
theorem eq_l0 (xs : List S32) (hlen : xs.length ≤ 1048576) (ih : ∀ y, y ∈ xs → Evn (fun k => eq k y y) true) :
    ∀ (d i : Nat), i + d = xs.length → Evn (fun k => laws_eqNodeS.l0 k xs xs (i : Int)) true
  | 0, i, hd => Evn.step (g' := fun _ => some true) (fun k => by rw [laws_eqNodeS.l0, if_neg (by omega)]) (Evn.pure _)
  | d + 1, i, hd => by
    have hi : i < xs.length := by omega
    have key : ∀ k, laws_eqNodeS.l0 (k + 1) xs xs (i : Int) = (eq k xs[i] xs[i]).bind fun t => if t = true then laws_eqNodeS.l0 k xs xs ((i + 1 : Nat) : Int) else some false := by
      intro k
      rw [laws_eqNodeS.l0, if_pos (by omega), if_pos (by omega), if_pos (by omega), w1 i (by omega)]
      simp only [rd_T32, getD_nat _ _ _ hi]
    exact Evn.step key (Evn.bind (ih xs[i] (List.getElem_mem hi)) (Evn.ite_pos rfl (eq_l0 xs hlen ih d (i + 1) (by omega))))
theorem eq_ev : ∀ (n : Nat) (x : S32), Lo n x → Evn (fun k => eq k x x) true
  | 0, _, hf => hf.elim
  | n + 1, x, ⟨hl, hk⟩ => by
    have key : ∀ k, eq (k + 1) x x = (laws_eqNodeS.f k x.f3 x.f3).bind fun t => if t = true then some true else some false := by
      intro k
      show laws_eqNode.f (k + 1) _ _ _ _ _ _ _ _ _ _ = _
      rw [laws_eqNode.f, if_pos rfl, if_pos rfl]
      simp only [laws_eqDec.f, if_true, Option.bind_some]
    have key2 : ∀ k, laws_eqNodeS.f (k + 1) x.f3 x.f3 = laws_eqNodeS.l0 k x.f3 x.f3 ((0 : Nat) : Int) := by
      intro k
      rw [laws_eqNodeS.f, if_pos rfl]
      rfl
    exact Evn.step key (Evn.bind (Evn.step key2 (eq_l0 x.f3 hl (fun y hy => eq_ev n y (hk y hy)) x.f3.length 0 (by omega))) (Evn.ite_pos rfl (Evn.pure _)))

/-! ### TreeSize -/
theorem size_l0 (a b c d' : Int) (s : ByteArray) (xs : List S32) (hlen : xs.length ≤ 1048576) (ih : ∀ y, y ∈ xs → ∃ r, Evn (fun k => sS k y) r ∧ Evn (fun k => iS k y) r) :
    ∀ (d i : Nat) (m : Int), i + d = xs.length → ∃ r, Evn (fun k => spec_TreeSize.l0 k m (i : Int) a s b c xs) r ∧ Evn (fun k => impl_TreeSize.l0 k m xs (xs.length : Int) (i : Int)) r
  | 0, i, m, hd => ⟨m, Evn.step (g' := fun _ => some m) (fun k => by rw [spec_TreeSize.l0, if_neg (by omega)]) (Evn.pure _), Evn.step (g' := fun _ => some m) (fun k => by rw [impl_TreeSize.l0, if_neg (by omega)]) (Evn.pure _)⟩
  | d + 1, i, m, hd => by
    have hi : i < xs.length := by omega
    obtain ⟨t, ht, ht'⟩ := ih xs[i] (List.getElem_mem hi)
    have key : ∀ k, spec_TreeSize.l0 (k + 1) m (i : Int) a s b c xs = (sS k xs[i]).bind fun t => spec_TreeSize.l0 k (wrap64 (m + t)) ((i + 1 : Nat) : Int) a s b c xs := by
      intro k
      rw [spec_TreeSize.l0, if_pos (by omega), if_pos (by omega), w1 i (by omega)]
      simp only [rd_T32, getD_nat _ _ _ hi]
    have key' : ∀ k, impl_TreeSize.l0 (k + 1) m xs (xs.length : Int) (i : Int) = (iS k xs[i]).bind fun t => impl_TreeSize.l0 k (wrap64 (m + t)) xs (xs.length : Int) ((i + 1 : Nat) : Int) := by
      intro k
      rw [impl_TreeSize.l0, if_pos (by omega), if_pos (by omega), if_pos (by omega), w1 i (by omega)]
      simp only [rd_T32, getD_nat _ _ _ hi]
    obtain ⟨r, hr, hr'⟩ := size_l0 a b c d' s xs hlen ih d (i + 1) (wrap64 (m + t)) (by omega)
    exact ⟨r, Evn.step key (Evn.bind ht hr), Evn.step key' (Evn.bind ht' hr')⟩
theorem size_ev : ∀ (n : Nat) (x : S32), Lo n x → ∃ r, Evn (fun k => sS k x) r ∧ Evn (fun k => iS k x) r
  | 0, _, hf => hf.elim
  | n + 1, x, ⟨hl, hk⟩ => by
    obtain ⟨r, hr, hr'⟩ := size_l0 x.f0 x.f2.f0 x.f2.f1 0 x.f1 x.f3 hl (fun y hy => size_ev n y (hk y hy)) x.f3.length 0 1 (by omega)
    exact ⟨r, Evn.step (fun k => by show spec_TreeSize.f (k + 1) _ _ _ _ _ = _; rw [spec_TreeSize.f]; rfl) hr, Evn.step (fun k => by show impl_TreeSize.f (k + 1) _ _ _ _ _ = _; rw [impl_TreeSize.f]; rfl) hr'⟩

/-! ### TreeDeep -/
theorem deep_l0 (a b c d' : Int) (s : ByteArray) (xs : List S32) (hlen : xs.length ≤ 1048576) (ih : ∀ y, y ∈ xs → ∃ r, Evn (fun k => sD k y) r ∧ Evn (fun k => iD k y) r) :
    ∀ (d i : Nat) (m : Int), i + d = xs.length → ∃ r, Evn (fun k => spec_TreeDeep.l0 k m (i : Int) a s b c xs) r ∧ Evn (fun k => impl_TreeDeep.l0 k m xs (xs.length : Int) (i : Int)) r
  | 0, i, m, hd => ⟨wrap64 (m + 1), Evn.step (g' := fun _ => some (wrap64 (m + 1))) (fun k => by rw [spec_TreeDeep.l0, if_neg (by omega)]) (Evn.pure _), Evn.step (g' := fun _ => some (wrap64 (m + 1))) (fun k => by rw [impl_TreeDeep.l0, if_neg (by omega)]) (Evn.pure _)⟩
  | d + 1, i, m, hd => by
    have hi : i < xs.length := by omega
    obtain ⟨t, ht, ht'⟩ := ih xs[i] (List.getElem_mem hi)
    have key : ∀ k, spec_TreeDeep.l0 (k + 1) m (i : Int) a s b c xs = (sD k xs[i]).bind fun t => spec_TreeDeep.l0 k (mx m t) ((i + 1 : Nat) : Int) a s b c xs := by
      intro k
      rw [spec_TreeDeep.l0, if_pos (by omega), if_pos (by omega), w1 i (by omega)]
      simp only [rd_T32, getD_nat _ _ _ hi]
      refine congrArg _ (funext fun t => ?_)
      unfold mx
      by_cases c : m < t
      · rw [if_pos c, if_pos c]
      · rw [if_neg c, if_neg c]
    have key' : ∀ k, impl_TreeDeep.l0 (k + 1) m xs (xs.length : Int) (i : Int) = (iD k xs[i]).bind fun t => impl_TreeDeep.l0 k (mx m t) xs (xs.length : Int) ((i + 1 : Nat) : Int) := by
      intro k
      rw [impl_TreeDeep.l0, if_pos (by omega), if_pos (by omega), if_pos (by omega), w1 i (by omega)]
      simp only [rd_T32, getD_nat _ _ _ hi]
    obtain ⟨r, hr, hr'⟩ := deep_l0 a b c d' s xs hlen ih d (i + 1) (mx m t) (by omega)
    exact ⟨r, Evn.step key (Evn.bind ht hr), Evn.step key' (Evn.bind ht' hr')⟩
theorem deep_ev : ∀ (n : Nat) (x : S32), Lo n x → ∃ r, Evn (fun k => sD k x) r ∧ Evn (fun k => iD k x) r
  | 0, _, hf => hf.elim
  | n + 1, x, ⟨hl, hk⟩ => by
    obtain ⟨r, hr, hr'⟩ := deep_l0 x.f0 x.f2.f0 x.f2.f1 0 x.f1 x.f3 hl (fun y hy => deep_ev n y (hk y hy)) x.f3.length 0 0 (by omega)
    exact ⟨r, Evn.step (fun k => by show spec_TreeDeep.f (k + 1) _ _ _ _ _ = _; rw [spec_TreeDeep.f]; rfl) hr, Evn.step (fun k => by show impl_TreeDeep.f (k + 1) _ _ _ _ _ = _; rw [impl_TreeDeep.f]; rfl) hr'⟩
end Go.Proofs.Ytnneomlmienbaaa.Tn
