import Derived.Test.YtmoaolcioihjnaaBFnQuoteQg
namespace Go.Proofs.Ytmoaolcioihjnaa.Qg
set_option linter.unusedVariables false
set_option linter.unusedSimpArgs false
open Go.RowKit Go.Proofs.Ytmoaolcioihjnaa.Q Go.Proofs.Ytmoaolcioihjnaa.Evs Go.Proofs.YtmoaolcioihjnaaW.PrintWords Go.Proofs.YtmoaolcioihjnaaW.PrintLast

/-! What is put is read back. -/
theorem bt_str (l : List Int) (hl : ∀ x, x ∈ l → Qp.Byte x) (j : Nat) (h : j < l.length) : bt (strOfNums l) (j : Int) = l[j] := by
  have e : (strOfNums l).size = l.length := Qp.str_size l
  have h2 : ((j : Int)).toNat < (strOfNums l).size := by omega
  have h3 : (bytesOf (strOfNums l))[j]? = some l[j] := by rw [Qp.bytes_str l hl]; exact List.getElem?_eq_getElem h
  unfold bytesOf at h3
  rw [List.getElem?_map] at h3
  obtain ⟨b, hb1, hb2⟩ := Option.map_eq_some_iff.1 h3
  rw [← bt_at _ _ h2, ← hb2]
  obtain ⟨hj, hb3⟩ := List.getElem?_eq_some_iff.1 hb1
  rw [← hb3]
  rfl
theorem back_fin : ∀ c : Fin 256, 0 ≤ hexv (Qp.hx ((c.val : Int) / 16)) ∧ 0 ≤ hexv (Qp.hx ((c.val : Int) % 16)) ∧ (wrap64 (wrap64 (hexv (Qp.hx ((c.val : Int) / 16)) * 16) + hexv (Qp.hx ((c.val : Int) % 16)))) % 256 = c.val ∧ 0 ≤ wrap64 (wrap64 (hexv (Qp.hx ((c.val : Int) / 16)) * 16) + hexv (Qp.hx ((c.val : Int) % 16))) := by decide +kernel
theorem plain92 : Qp.plainB 92 ≠ true := by decide
def raw (a : ByteArray) : Nat → Int → List Int
  | 0, _ => []
  | n + 1, i => bt a i :: raw a n (i + 1)
theorem at_mid (pre l suf : List Int) (j : Nat) (h : j < l.length) : (pre ++ l ++ suf)[pre.length + j]? = some l[j] := by
  rw [List.append_assoc, List.getElem?_append_right (by omega), List.getElem?_append_left (by omega)]
  simp [h]
theorem read_back (a : ByteArray) (E : List Int) (hE : ∀ x, x ∈ E → Qp.Byte x) (hs : E.length ≤ 1048576) : ∀ (n : Nat) (i : Int) (pre out : List Int), E = pre ++ Qp.escs a n i → out.length ≤ pre.length →
    Evn (fun k => impl_QuoteGet.l0 k (strOfNums E) out (pre.length : Int)) (strOfNums (out ++ raw a n i), true)
  | 0, i, pre, out, he, ho => by
    have e : (strOfNums E).size = E.length := Qp.str_size E
    have hl : E.length = pre.length := by rw [he]; simp [Qp.escs]
    refine Evn.step (g' := fun _ => some (strOfNums (out ++ raw a 0 i), true)) (fun k => ?_) (Evn.pure _)
    rw [impl_QuoteGet.l0, if_neg (by omega)]
    simp [raw]
  | n + 1, i, pre, out, he, ho => by
    have e : (strOfNums E).size = E.length := Qp.str_size E
    have hb := bt_range a i
    have he2 : E = pre ++ Qp.esc (bt a i) ++ Qp.escs a n (i + 1) := by rw [he]; simp [Qp.escs]
    have hlen : E.length = pre.length + (Qp.esc (bt a i)).length + (Qp.escs a n (i + 1)).length := by
      have := congrArg List.length he2
      simp only [List.length_append] at this
      exact this
    have at_ : ∀ j (h : j < (Qp.esc (bt a i)).length), bt (strOfNums E) ((pre.length : Int) + (j : Int)) = (Qp.esc (bt a i))[j] := fun j h => by
      have := bt_str E hE (pre.length + j) (by omega)
      rw [show ((pre.length + j : Nat) : Int) = (pre.length : Int) + (j : Int) by omega] at this
      rw [this]
      have g := at_mid pre (Qp.esc (bt a i)) (Qp.escs a n (i + 1)) j h
      rw [← he2, List.getElem?_eq_getElem (by omega)] at g
      exact Option.some.inj g
    have next := read_back a E hE hs n (i + 1) (pre ++ Qp.esc (bt a i)) (out ++ [bt a i]) he2
    have fin : strOfNums (out ++ [bt a i] ++ raw a n (i + 1)) = strOfNums (out ++ raw a (n + 1) i) := by simp [raw]
    rw [fin] at next
    by_cases c1 : Qp.plainB (bt a i) = true
    · have es : Qp.esc (bt a i) = [bt a i] := by unfold Qp.esc; rw [if_pos c1]
      rw [es] at at_ hlen next
      have a0 := at_ 0 (by simp)
      simp only [List.getElem_cons_zero, List.length_singleton, List.length_append] at a0 hlen next
      rw [show (pre.length : Int) + ((0 : Nat) : Int) = (pre.length : Int) by omega] at a0
      have nx := next (by simp; omega)
      refine im_plain (strOfNums E) pre.length out (by omega) (by omega) (by omega) (by omega) (by rw [a0]; exact c1) ?_
      rw [a0]
      exact nx
    have p92 : ∀ x : Int, x = 92 → Qp.plainB x ≠ true := fun x h => by rw [h]; exact plain92
    by_cases c2 : bt a i = 10
    · have es : Qp.esc (bt a i) = [92, 110] := by unfold Qp.esc; rw [if_neg c1, if_pos c2]
      rw [es] at at_ hlen next
      have a0 := at_ 0 (by simp)
      have a1 := at_ 1 (by simp)
      simp only [List.getElem_cons_zero, List.getElem_cons_succ, List.length_append, List.length_cons, List.length_nil] at a0 a1 hlen next
      rw [show (pre.length : Int) + ((0 : Nat) : Int) = (pre.length : Int) by omega] at a0
      rw [show ((1 : Nat) : Int) = 1 from rfl] at a1
      have nx := next (by simp; omega)
      have key := im_else (strOfNums E) pre.length out (by omega) (by omega) (by omega) (by omega) (p92 _ a0) a0 (by omega) (by omega)
      refine Evn.step (g' := fun k => impl_QuoteGet.l0 (k + 1) (strOfNums E) out (pre.length : Int)) (fun _ => rfl) (Evn.step (g' := fun k => impl_QuoteGet.l0 (k + 1 + 1) (strOfNums E) out (pre.length : Int)) (fun _ => rfl) (Evn.step key (Evn.ite_pos a1 ?_)))
      rw [c2] at nx
      exact nx
    by_cases c3 : bt a i = 34 ∨ bt a i = 92
    · have es : Qp.esc (bt a i) = [92, bt a i] := by unfold Qp.esc; rw [if_neg c1, if_neg c2, if_pos c3]
      rw [es] at at_ hlen next
      have a0 := at_ 0 (by simp)
      have a1 := at_ 1 (by simp)
      simp only [List.getElem_cons_zero, List.getElem_cons_succ, List.length_append, List.length_cons, List.length_nil] at a0 a1 hlen next
      rw [show (pre.length : Int) + ((0 : Nat) : Int) = (pre.length : Int) by omega] at a0
      rw [show ((1 : Nat) : Int) = 1 from rfl] at a1
      have nx := next (by simp; omega)
      refine im_q (strOfNums E) pre.length out (by omega) (by omega) (by omega) (by omega) (p92 _ a0) a0 (by omega) ?_
      rw [a1]
      exact nx
    · have es : Qp.esc (bt a i) = [92, 120, Qp.hx (bt a i / 16), Qp.hx (bt a i % 16)] := by unfold Qp.esc; rw [if_neg c1, if_neg c2, if_neg c3]
      rw [es] at at_ hlen next
      have a0 := at_ 0 (by simp)
      have a1 := at_ 1 (by simp)
      have a2 := at_ 2 (by simp)
      have a3 := at_ 3 (by simp)
      simp only [List.getElem_cons_zero, List.getElem_cons_succ, List.length_append, List.length_cons, List.length_nil] at a0 a1 a2 a3 hlen next
      rw [show (pre.length : Int) + ((0 : Nat) : Int) = (pre.length : Int) by omega] at a0
      rw [show ((1 : Nat) : Int) = 1 from rfl] at a1
      rw [show ((2 : Nat) : Int) = 2 from rfl] at a2
      rw [show ((3 : Nat) : Int) = 3 from rfl] at a3
      have nx := next (by simp; omega)
      obtain ⟨f0, f1, f2, f3⟩ := Qp.fin_of (p := fun c => 0 ≤ hexv (Qp.hx (c / 16)) ∧ 0 ≤ hexv (Qp.hx (c % 16)) ∧ (wrap64 (wrap64 (hexv (Qp.hx (c / 16)) * 16) + hexv (Qp.hx (c % 16)))) % 256 = c ∧ 0 ≤ wrap64 (wrap64 (hexv (Qp.hx (c / 16)) * 16) + hexv (Qp.hx (c % 16)))) back_fin (bt a i) hb.1 hb.2
      have key := im_else (strOfNums E) pre.length out (by omega) (by omega) (by omega) (by omega) (p92 _ a0) a0 (by omega) (by omega)
      have hu := unhex (strOfNums E) ((pre.length : Int) + 2) (by omega) (by omega) (by omega)
      rw [show (pre.length : Int) + 2 + 1 = (pre.length : Int) + 3 by omega, if_pos (by omega), a2, a3, if_neg (by omega), if_neg (by omega)] at hu
      refine Evn.step (g' := fun k => impl_QuoteGet.l0 (k + 1) (strOfNums E) out (pre.length : Int)) (fun _ => rfl) (Evn.step (g' := fun k => impl_QuoteGet.l0 (k + 1 + 1) (strOfNums E) out (pre.length : Int)) (fun _ => rfl) (Evn.step key (Evn.ite_neg (by omega) (Evn.ite_pos a1 (Evn.of (fun k => by rw [hu, Option.bind_some, if_neg (by omega), f2]) ?_)))))
      exact nx
end Go.Proofs.Ytmoaolcioihjnaa.Qg
