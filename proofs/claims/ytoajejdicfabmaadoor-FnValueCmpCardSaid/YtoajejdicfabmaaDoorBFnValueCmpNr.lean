import Derived.Test.YtoajejdicfabmaaDoorBFnValueCmpDw
namespace Go.Proofs.YtoajejdicfabmaaDoor.Nr
set_option linter.unusedVariables false
set_option linter.unusedSimpArgs false
open Go.RowKit Go.Proofs.YtoajejdicfabmaaDoor.Q Go.Proofs.YtoajejdicfabmaaDoor.Evs Go.Proofs.YtoajejdicfabmaaDoor.Th Go.Proofs.YtoajejdicfabmaaDoor.Tv Go.Proofs.YtoajejdicfabmaaDoor.Dw Go.Proofs.YtoajejdicfabmaaDoorW.PrintWords Go.Proofs.YtoajejdicfabmaaDoorW.PrintLast
def D4 : Nat → S33 → Prop
 | 0, _ => False
 | d + 1, z => Nd 4 z ∧ ∀ y, y ∈ z.f3 → D4 d y
theorem D4.up : ∀ (n : Nat) (z : S33), D4 n z → D4 (n + 1) z
 | 0, _, h => h.elim
 | n + 1, _, ⟨h, hk⟩ => ⟨h, fun y hy => D4.up n y (hk y hy)⟩
theorem D4.le {n m : Nat} {z : S33} (h : D4 n z) (hm : n ≤ m) : D4 m z := by
 obtain ⟨d, rfl⟩ : ∃ d, m = n + d := ⟨m - n, by omega⟩
 induction d with
 | zero => exact h
 | succ d ih => exact D4.up _ _ (ih (by omega))
theorem D4.lo : ∀ (n : Nat) (z : S33), D4 n z → Lo n z
 | 0, _, h => h.elim
 | n + 1, z, ⟨h, hk⟩ => ⟨by have := h.2.2.2.1; omega, fun y hy => D4.lo n y (hk y hy), by have := h.2.2.2.2.1; omega, fun s hs => by have := h.2.2.2.2.2 s hs; omega⟩
theorem nd4 {z : S33} (h : Nd 3 z) : Nd 4 z := ⟨h.1, h.2.1, h.2.2.1, h.2.2.2.1, by have := h.2.2.2.2.1; omega, h.2.2.2.2.2⟩
theorem dv4 : ∀ (n : Nat) (z : S33), Dv n z → D4 n z
 | 0, _, h => h.elim
 | n + 1, _, ⟨h, hk⟩ => ⟨nd4 h, fun y hy => dv4 n y (hk y hy)⟩
theorem any4 (z : S33) (h : Any z) : D4 24 z := by
 rcases h with ⟨hN, hk⟩ | ⟨y, hy, rfl⟩
 ·exact D4.le (n := 4) ⟨hN, fun y hy => dv4 3 y (hk y hy)⟩ (by omega)
 ·exact dv4 24 _ (wrapped_dv 20 4 y hy)
abbrev cy (k : Nat) (x : S33) := spec_l13Copy.f k x.f0 x.f1.f0 x.f1.f1 x.f2 x.f3 x.f4
theorem copy_l0 (a b c : Int) (s : ByteArray) (ns : List ByteArray) (a' b' c' : Int) (s' : ByteArray) (ns' : List ByteArray) (xs : List S33) (hlen : xs.length ≤ 1048576) (ih : ∀ y, y ∈ xs → Evn (fun k => cy k y) (tup y)) :
  ∀ (d i : Nat) (out : List S33), i + d = xs.length → out.length + d ≤ 1048576 → Evn (fun k => spec_l13Copy.l0 k (i : Int) a b c s xs ns a' b' c' s' out ns') (a', b', c', s', out ++ xs.drop i, ns')
 | 0, i, out, hd, _ => by
  rw [List.drop_eq_nil_of_le (by omega), List.append_nil]
  exact Evn.step (g' := fun _ => some (a', b', c', s', out, ns')) (fun k => by rw [spec_l13Copy.l0, if_neg (by omega)]) (Evn.pure _)
 | d + 1, i, out, hd, ho => by
  have hi : i < xs.length := by omega
  have h := copy_l0 a b c s ns a' b' c' s' ns' xs hlen ih d (i + 1) (out ++ [xs[i]]) (by omega) (by simp; omega)
  rw [← w1 i (by omega), List.append_assoc, List.singleton_append, ← List.drop_eq_getElem_cons hi] at h
  have e : rd_T33 xs (i : Int) = xs[i] := by simp only [rd_T33, getD_nat _ _ _ hi]
  refine Evn.step (fun k => by rw [spec_l13Copy.l0, if_pos (by omega), if_pos (by omega), e]) (Evn.bind (ih _ (List.getElem_mem hi)) (Evn.ite_pos (show out.length < 1599289640401 by omega) ?_))
  dsimp only
  rw [eta]
  exact h
theorem copy_ev : ∀ (n : Nat) (z : S33), Lo n z → Evn (fun k => cy k z) (tup z)
 | 0, _, h => h.elim
 | n + 1, z, ⟨hl, hk, hn, _⟩ => by
  have h := copy_l0 z.f0 z.f1.f0 z.f1.f1 z.f2 z.f4 z.f0 z.f1.f0 z.f1.f1 z.f2 z.f4 z.f3 hl (fun y hy => copy_ev n y (hk y hy)) z.f3.length 0 [] (by omega) (by simp; omega)
  rw [List.drop_zero, List.nil_append] at h
  refine Evn.step (fun k => by show spec_l13Copy.f (k + 1) _ _ _ _ _ _ = _; rw [spec_l13Copy.f]) ?_
  refine Evn.bind (g := fun _ => some ([] : List ByteArray)) (Evn.pure _) ?_
  simp only [List.length_nil, List.nil_append]
  exact Evn.ite_pos (by omega) h
theorem shift {α : Type} {g : Nat → Option α} {r : α} (h : Evn (fun k => g (k + 1)) r) : Evn g r := Evn.step (fun _ => rfl) h
abbrev nr (k : Nat) (l : List Int) (p : Int) (x : S33) := spec_l14Near.f k l p x.f0 x.f1.f0 x.f1.f1 x.f2 x.f3 x.f4
theorem nd_items {z : S33} (h : Nd 4 z) (xs : List S33) (hx : xs.length = z.f3.length) : Nd 4 ⟨z.f0, z.f1, z.f2, xs, z.f4⟩ := ⟨⟨h.1.1, fun e => by have := h.1.2 e; show xs.length ≤ z.f4.length; omega⟩, h.2.1, h.2.2.1, by show xs.length ≤ 3; have := h.2.2.2.1; omega, h.2.2.2.2⟩
theorem near_ev {l : List Int} (hl : Bytes l) (hlen : l.length ≤ 2000) : ∀ (n : Nat) (z : S33), D4 n z → n ≤ 100 → ∀ p : Int, 0 ≤ p → p + 4 * n + 700 ≤ 90000 →
  ∃ x q, Evn (fun k => nr k l p z) (tup7 x q) ∧ D4 (n + 3) x ∧ p ≤ q ∧ q ≤ p + 4 * n + 700
 | 0, _, h, _, _, _, _ => h.elim
 | n + 1, z, hz, hn, p, hp, hp2 => by
  have hc := copy_ev (n + 1) z (D4.lo _ _ hz)
  obtain ⟨hN, hk⟩ := hz
  obtain ⟨v, hv, b1, b2⟩ := pick_ev hl hlen p 4 hp (by omega) (by omega)
  suffices hS : ∃ x q, Evn (fun k => nr (k + 1) l p z) (tup7 x q) ∧ D4 (n + 1 + 3) x ∧ p ≤ q ∧ q ≤ p + 4 * ((n + 1 : Nat) : Int) + 700 by
   obtain ⟨x, q, h1, h2⟩ := hS
   exact ⟨x, q, shift h1, h2⟩
  simp only [nr, spec_l14Near.f]
  by_cases c0 : v = 0
  ·obtain ⟨x, q, hx, hD, q1, q2⟩ := value_ev hl hlen 2 (by omega) (p + 1) (by omega) (by simp [C]; omega)
   have hC : C 2 = 156 := by decide
   exact ⟨x, q, (Evn.bind hc (Evn.bind hv (Evn.ite_pos c0 (Evn.bind hx (Evn.pure _))))), D4.le (dv4 3 _ hD) (by omega), by omega, by omega⟩
  by_cases c1 : (z.f3.length : Int) = 0
  ·exact ⟨z, p + 1, (Evn.bind hc (Evn.bind hv (Evn.ite_neg c0 (Evn.ite_pos c1 (Evn.pure _))))), D4.le (n := n + 1) ⟨hN, hk⟩ (by omega), by omega, by omega⟩
  obtain ⟨j, hj, j1, j2⟩ := pick_ev hl hlen (p + 1) (z.f3.length : Int) (by omega) (by omega) (by omega)
  obtain ⟨i, rfl⟩ := Int.eq_ofNat_of_zero_le j1
  have hi : i < z.f3.length := by omega
  have hlen3 := hN.2.2.2.1
  obtain ⟨u, hu, u1, u2⟩ := pick_ev hl hlen (p + 1 + 1) 4 (by omega) (by omega) (by omega)
  have hset : ∀ (m : Nat) (y : S33), D4 m y → n ≤ m → D4 (m + 1) ⟨z.f0, z.f1, z.f2, z.f3.set i y, z.f4⟩ := fun m y hy hm =>
   ⟨nd_items hN _ (by simp), fun w hw => by
    rcases List.mem_or_eq_of_mem_set hw with hw | hw
    ·exact D4.le (hk w hw) hm
    ·rw [hw]; exact hy⟩
  by_cases c2 : u = 0
  ·obtain ⟨y, q, hy, hD, q1, q2⟩ := value_ev hl hlen 1 (by omega) (p + 1 + 1 + 1) (by omega) (by simp [C]; omega)
   have hC : C 1 = 48 := by decide
   refine ⟨⟨z.f0, z.f1, z.f2, z.f3.set i y, z.f4⟩, q, (Evn.bind hc (Evn.bind hv (Evn.ite_neg c0 (Evn.ite_neg c1 (Evn.bind hj (Evn.bind hu (Evn.ite_pos c2 (Evn.bind hy (Evn.ite_pos j1 (Evn.ite_pos j2 ?_)))))))))), D4.le (hset (n + 2) y (D4.le (dv4 2 _ hD) (by omega)) (by omega)) (by omega), by omega, by omega⟩
   simp only [Int.toNat_natCast, eta]
   exact Evn.pure _
  by_cases c3 : u = 1
  ·have hw : wrap64 ((i : Int) + 1) = ((i + 1 : Nat) : Int) := w1 i (by omega)
   have hsub : ∀ w, w ∈ z.f3.take i ++ z.f3.drop (i + 1) → w ∈ z.f3 := fun w hw => by
    rcases List.mem_append.1 hw with hw | hw
    ·exact List.mem_of_mem_take hw
    ·exact List.mem_of_mem_drop hw
   have hsl : (z.f3.take i ++ z.f3.drop (i + 1)).length + 1 = z.f3.length := by simp only [List.length_append, List.length_take, List.length_drop]; omega
   by_cases c6 : z.f0 = 6
   ·have h34 := hN.1.2 c6
    have hl4 := hN.2.2.2.2.1
    have hnl : (z.f4.take i ++ z.f4.drop (i + 1)).length + 1 = z.f4.length := by simp only [List.length_append, List.length_take, List.length_drop]; omega
    refine ⟨⟨z.f0, z.f1, z.f2, z.f3.take i ++ z.f3.drop (i + 1), z.f4.take i ++ z.f4.drop (i + 1)⟩, p + 1 + 1 + 1, (Evn.bind hc (Evn.bind hv (Evn.ite_neg c0 (Evn.ite_neg c1 (Evn.bind hj (Evn.bind hu (Evn.ite_neg c2 (Evn.ite_pos c3 ?_)))))))), D4.le (n := n + 1) ⟨⟨⟨hN.1.1, fun _ => by dsimp only; omega⟩, hN.2.1, hN.2.2.1, by dsimp only; omega, by dsimp only; omega, fun s hs => ?_⟩, fun w hw => hk w (hsub w hw)⟩ (by omega), by omega, by omega⟩
    ·dsimp only
     simp only [Option.bind_some, hw, Int.toNat_natCast, List.nil_append, List.length_nil, List.length_take, List.length_append, List.length_drop]
     refine Evn.ite_pos j1 (Evn.ite_pos (by omega) (Evn.ite_pos (by omega) (Evn.ite_pos (by omega) (Evn.ite_pos (by omega) (Evn.ite_pos (by omega) (Evn.ite_pos c6 (Evn.ite_pos (by omega) (Evn.ite_pos (by omega) (Evn.ite_pos (by omega) (Evn.ite_pos (by omega) (Evn.pure _)))))))))))
    ·rcases List.mem_append.1 hs with hs | hs
     ·exact hN.2.2.2.2.2 s (List.mem_of_mem_take hs)
     ·exact hN.2.2.2.2.2 s (List.mem_of_mem_drop hs)
   ·refine ⟨⟨z.f0, z.f1, z.f2, z.f3.take i ++ z.f3.drop (i + 1), z.f4⟩, p + 1 + 1 + 1, (Evn.bind hc (Evn.bind hv (Evn.ite_neg c0 (Evn.ite_neg c1 (Evn.bind hj (Evn.bind hu (Evn.ite_neg c2 (Evn.ite_pos c3 ?_)))))))), D4.le (n := n + 1) ⟨⟨⟨hN.1.1, fun e => absurd e c6⟩, hN.2.1, hN.2.2.1, by dsimp only; omega, hN.2.2.2.2⟩, fun w hw => hk w (hsub w hw)⟩ (by omega), by omega, by omega⟩
    dsimp only
    simp only [Option.bind_some, hw, Int.toNat_natCast, List.nil_append, List.length_nil, List.length_take, List.length_append, List.length_drop]
    exact Evn.ite_pos j1 (Evn.ite_pos (by omega) (Evn.ite_pos (by omega) (Evn.ite_pos (by omega) (Evn.ite_pos (by omega) (Evn.ite_pos (by omega) (Evn.ite_neg c6 (Evn.pure _)))))))
  ·have e : rd_T33 z.f3 (i : Int) = z.f3[i] := by simp only [rd_T33, getD_nat _ _ _ hi]
   obtain ⟨y, q, hy, hD, q1, q2⟩ := near_ev hl hlen n z.f3[i] (hk _ (List.getElem_mem hi)) (by omega) (p + 1 + 1 + 1) (by omega) (by omega)
   refine ⟨⟨z.f0, z.f1, z.f2, z.f3.set i y, z.f4⟩, q, (Evn.bind hc (Evn.bind hv (Evn.ite_neg c0 (Evn.ite_neg c1 (Evn.bind hj (Evn.bind hu (Evn.ite_neg c2 (Evn.ite_neg c3 (Evn.ite_pos j1 (Evn.ite_pos j2 ?_)))))))))), hset (n + 3) y hD (by omega), by omega, by omega⟩
   dsimp only
   rw [e]
   refine Evn.bind hy ?_
   simp only [Int.toNat_natCast, eta]
   exact Evn.pure _
theorem draw_ev (l : List Int) (hl : Bytes l) : ∃ a b, Evn (fun k => spec_DrawValueCmp.f k l) (a.f0, a.f1.f0, a.f1.f1, a.f2, a.f3, a.f4, b.f0, b.f1.f0, b.f1.f1, b.f2, b.f3, b.f4) ∧ D4 30 a ∧ D4 30 b := by
 obtain ⟨m, hm, hB, hlen⟩ := opened l hl
 obtain ⟨z, q, hz, hA, q1, q2⟩ := any_ev hB hlen 0 (by omega) (by omega)
 obtain ⟨v, hv, b1, b2⟩ := pick_ev hB hlen q 3 (by omega) (by omega) (by omega)
 have h4 := any4 z hA
 unfold spec_DrawValueCmp.f
 by_cases c : v > 0
 ·obtain ⟨x, q3, hx, hD, _⟩ := near_ev hB hlen 24 z h4 (by omega) (q + 1) (by omega) (by omega)
  exact ⟨z, x, Evn.bind (g := fun _ => spec_l1Open.f l) ⟨0, fun _ _ => hm⟩ (Evn.bind hz (Evn.bind hv (Evn.ite_pos c (Evn.bind hx (Evn.pure _))))), D4.le h4 (by omega), D4.le hD (by omega)⟩
 ·obtain ⟨x, q3, hx, hD, _⟩ := any_ev hB hlen (q + 1) (by omega) (by omega)
  exact ⟨z, x, Evn.bind (g := fun _ => spec_l1Open.f l) ⟨0, fun _ _ => hm⟩ (Evn.bind hz (Evn.bind hv (Evn.ite_neg c (Evn.bind hx (Evn.pure _))))), D4.le h4 (by omega), D4.le (any4 x hD) (by omega)⟩
end Go.Proofs.YtoajejdicfabmaaDoor.Nr
