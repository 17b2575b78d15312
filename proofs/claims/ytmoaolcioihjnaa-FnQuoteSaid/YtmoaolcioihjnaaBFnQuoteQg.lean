import Derived.Test.YtmoaolcioihjnaaBFnQuoteQp
import Derived.Test.YtmoaolcioihjnaaBFnQuoteEv
import Derived.Test.YtmoaolcioihjnaaBFnQuoteq3
namespace Go.Proofs.Ytmoaolcioihjnaa.Qg
set_option linter.unusedVariables false
set_option linter.unusedSimpArgs false
open Go.RowKit Go.Proofs.Ytmoaolcioihjnaa.Q Go.Proofs.Ytmoaolcioihjnaa.Evs Go.Proofs.YtmoaolcioihjnaaW.PrintWords Go.Proofs.YtmoaolcioihjnaaW.PrintLast

/-! A text read back from between its quotes. -/
def hexv (c : Int) : Int := if 48 ≤ c ∧ c ≤ 57 then c - 48 else if 97 ≤ c ∧ c ≤ 102 then c - 87 else -1
abbrev figs : ByteArray := ⟨#[48, 49, 50, 51, 52, 53, 54, 55, 56, 57, 97, 98, 99, 100, 101, 102]⟩
theorem ix_fin : ∀ c : Fin 256, strings_IndexByte.f figs (c.val : Int) = some (hexv c.val) := by decide +kernel
theorem hexv_fin : ∀ c : Fin 256, spec_l2Hex.f (c.val : Int) = some (hexv c.val) := by decide +kernel
theorem plain_fin : ∀ c : Fin 256, spec_l2Plain.f (c.val : Int) = some (Qp.plainB c.val) := by decide +kernel
theorem or_fin : ∀ a b : Fin 16, 0 ≤ Go.bits .or .i64 (wrap64 ((a.val : Int) * 16)) (b.val : Int) ∧ Go.bits .or .i64 (wrap64 ((a.val : Int) * 16)) (b.val : Int) = wrap64 (wrap64 ((a.val : Int) * 16) + (b.val : Int)) := by decide +kernel
theorem rng_fin : ∀ c : Fin 256, -1 ≤ hexv c.val ∧ hexv c.val ≤ 15 := by decide +kernel
theorem ix (c : Int) (h : 0 ≤ c ∧ c ≤ 255) : strings_IndexByte.f figs c = some (hexv c) := Qp.fin_of (p := fun c => strings_IndexByte.f figs c = some (hexv c)) ix_fin c h.1 h.2
theorem hexs (c : Int) (h : 0 ≤ c ∧ c ≤ 255) : spec_l2Hex.f c = some (hexv c) := Qp.fin_of (p := fun c => spec_l2Hex.f c = some (hexv c)) hexv_fin c h.1 h.2
theorem pls (c : Int) (h : 0 ≤ c ∧ c ≤ 255) : spec_l2Plain.f c = some (Qp.plainB c) := Qp.fin_of (p := fun c => spec_l2Plain.f c = some (Qp.plainB c)) plain_fin c h.1 h.2
theorem rng (c : Int) (h : 0 ≤ c ∧ c ≤ 255) : -1 ≤ hexv c ∧ hexv c ≤ 15 := Qp.fin_of (p := fun c => -1 ≤ hexv c ∧ hexv c ≤ 15) rng_fin c h.1 h.2
theorem ors {a b : Int} (h0 : 0 ≤ a) (h1 : a ≤ 15) (g0 : 0 ≤ b) (g1 : b ≤ 15) : 0 ≤ Go.bits .or .i64 (wrap64 (a * 16)) b ∧ Go.bits .or .i64 (wrap64 (a * 16)) b = wrap64 (wrap64 (a * 16) + b) := by
  have := or_fin ⟨a.toNat, by omega⟩ ⟨b.toNat, by omega⟩
  simpa [show ((a.toNat : Nat) : Int) = a by omega, show ((b.toNat : Nat) : Int) = b by omega] using this
theorem bt_cut (s : ByteArray) (a j : Int) (ha : 0 ≤ a) (hj : 0 ≤ j) (h : a + j < s.size) : bt (s.extract a.toNat s.size) j = bt s (a + j) := by
  have h1 : j.toNat < (s.extract a.toNat s.size).size := by rw [ByteArray.size_extract]; omega
  have h2 : (a + j).toNat < s.size := by omega
  rw [← bt_at _ _ h1, ← bt_at _ _ h2, ByteArray.getElem_extract]
  congr 3
  omega
/-- two figures -/
theorem unhex (s : ByteArray) (a : Int) (ha : 0 ≤ a) (hs : s.size ≤ 1048576) (has : a ≤ s.size) :
    impl_unhex.f (s.extract a.toNat s.size) = if a + 1 < s.size then (if hexv (bt s a) < 0 then some (-1) else if hexv (bt s (a + 1)) < 0 then some (-1) else some (wrap64 (wrap64 (hexv (bt s a) * 16) + hexv (bt s (a + 1))))) else some (-1) := by
  have hz : ((s.extract a.toNat s.size).size : Int) = s.size - a := by rw [ByteArray.size_extract]; omega
  unfold impl_unhex.f
  rw [hz]
  by_cases c : a + 1 < s.size
  · rw [if_neg (by omega), if_pos (by omega), if_pos c]
    have e0 : bt (s.extract a.toNat s.size) 0 = bt s a := by rw [bt_cut s a 0 ha (by omega) (by omega)]; congr 1; omega
    have e1 : bt (s.extract a.toNat s.size) 1 = bt s (a + 1) := bt_cut s a 1 ha (by omega) (by omega)
    rw [e0, e1, ix _ (bt_range s a), ix _ (bt_range s (a + 1))]
    simp only [Option.bind_some]
    rw [if_pos (by omega)]
    by_cases c1 : hexv (bt s a) < 0
    · rw [if_pos c1, if_pos c1]
    by_cases c2 : hexv (bt s (a + 1)) < 0
    · rw [if_neg c1, if_neg c1, if_pos c2, if_pos c2]
    · rw [if_neg c1, if_neg c1, if_neg c2, if_neg c2]
      have r1 := rng _ (bt_range s a)
      have r2 := rng _ (bt_range s (a + 1))
      rw [(ors (by omega) r1.2 (by omega) r2.2).2]
  · rw [if_pos (by omega), if_neg c]
theorem w1 {x : Int} (h : -9000000000000000000 ≤ x ∧ x ≤ 9000000000000000000) : wrap64 x = x := w64 _ (by omega)
/-! the reference's next byte -/
section
variable (s : ByteArray) (i : Int)
theorem nx_plain (h0 : 0 ≤ i) (h1 : i < s.size) (hp : Qp.plainB (bt s i) = true) : Evn (fun k => spec_l2Next.f k s i) (bt s i, 1) :=
  Evn.of (g' := fun _ => some (bt s i, 1)) (fun k => by rw [spec_l2Next.f, if_pos h0, if_pos h1, pls _ (bt_range s i), Option.bind_some, if_pos hp]) (Evn.pure _)
theorem nx_bad (h0 : 0 ≤ i) (h1 : i < s.size) (hs : s.size ≤ 1048576) (hp : Qp.plainB (bt s i) ≠ true) (h : bt s i ≠ 92 ∨ (s.size : Int) ≤ i + 1) : Evn (fun k => spec_l2Next.f k s i) (0, 0) := by
  have key : ∀ k, spec_l2Next.f k s i = spec_l2Next.j0 k s i true := fun k => by
    rw [spec_l2Next.f, if_pos h0, if_pos h1, pls _ (bt_range s i), Option.bind_some, if_neg hp, w1 (by omega)]
    by_cases c : bt s i = 92
    · rw [if_pos c, decide_eq_true (by omega)]
    · rw [if_neg c]
  exact Evn.of key (Evn.step (g' := fun _ => some (0, 0)) (fun k => by rw [spec_l2Next.j0, if_pos rfl]) (Evn.pure _))
theorem nx_esc (h0 : 0 ≤ i) (h1 : i + 1 < s.size) (hs : s.size ≤ 1048576) (hp : Qp.plainB (bt s i) ≠ true) (h : bt s i = 92) : ∀ k, spec_l2Next.f (k + 1) s i = if bt s (i + 1) = 110 then some (10, 2) else if bt s (i + 1) = 34 then spec_l2Next.j1 k s i (bt s (i + 1)) (bt s (i + 1) == 34) else spec_l2Next.j1 k s i (bt s (i + 1)) (bt s (i + 1) == 92) := fun k => by
  rw [spec_l2Next.f, if_pos h0, if_pos (by omega), pls _ (bt_range s i), Option.bind_some, if_neg hp, if_pos h, w1 (by omega), decide_eq_false (by omega), spec_l2Next.j0, if_neg (by decide), w1 (by omega), if_pos (by omega), if_pos h1]
theorem nx_n (h0 : 0 ≤ i) (h1 : i + 1 < s.size) (hs : s.size ≤ 1048576) (hp : Qp.plainB (bt s i) ≠ true) (h : bt s i = 92) (hc : bt s (i + 1) = 110) : Evn (fun k => spec_l2Next.f k s i) (10, 2) :=
  Evn.step (g' := fun _ => some (10, 2)) (fun k => by rw [nx_esc s i h0 h1 hs hp h k, if_pos hc]) (Evn.pure _)
theorem nx_q (h0 : 0 ≤ i) (h1 : i + 1 < s.size) (hs : s.size ≤ 1048576) (hp : Qp.plainB (bt s i) ≠ true) (h : bt s i = 92) (hc : bt s (i + 1) = 34 ∨ bt s (i + 1) = 92) : Evn (fun k => spec_l2Next.f k s i) (bt s (i + 1), 2) := by
  refine Evn.step (g' := fun k => spec_l2Next.j1 k s i (bt s (i + 1)) true) (fun k => ?_) (Evn.step (g' := fun _ => some (bt s (i + 1), 2)) (fun k => ?_) (Evn.pure _))
  · rw [nx_esc s i h0 h1 hs hp h k, if_neg (by omega)]
    rcases hc with hc | hc
    · rw [if_pos hc, hc]; rfl
    · rw [if_neg (by omega), hc]; rfl
  · rw [spec_l2Next.j1, if_pos rfl, w1 (by omega), if_pos (by omega), if_pos h1]
theorem nx_else (h0 : 0 ≤ i) (h1 : i + 1 < s.size) (hs : s.size ≤ 1048576) (hp : Qp.plainB (bt s i) ≠ true) (h : bt s i = 92) (hn : bt s (i + 1) ≠ 110) (hq : bt s (i + 1) ≠ 34) (hb : bt s (i + 1) ≠ 92) : ∀ k, spec_l2Next.f (k + 1 + 1) s i = if bt s (i + 1) = 120 then (if i + 3 < s.size then (spec_l2Hex.f (bt s (i + 2))).bind fun t => if t ≥ 0 then (spec_l2Hex.f (bt s (i + 3))).bind fun u => spec_l2Next.j2 k s i (decide (u ≥ 0)) else spec_l2Next.j2 k s i false else spec_l2Next.j2 k s i false) else some (0, 0) := fun k => by
  rw [nx_esc s i h0 h1 hs hp h, if_neg hn, if_neg hq, beq_false_of_ne hb, spec_l2Next.j1, if_neg (by decide), w1 (x := i + 3) (by omega), w1 (x := i + 2) (by omega)]
  by_cases c : bt s (i + 1) = 120
  · rw [if_pos c, if_pos c]
    by_cases c2 : i + 3 < s.size
    · rw [if_pos c2, if_pos c2, if_pos (by omega), if_pos (by omega), if_pos (by omega)]
    · rw [if_neg c2, if_neg c2]
  · rw [if_neg c, if_neg c]
theorem nx_none (h0 : 0 ≤ i) (h1 : i + 1 < s.size) (hs : s.size ≤ 1048576) (hp : Qp.plainB (bt s i) ≠ true) (h : bt s i = 92) (hn : bt s (i + 1) ≠ 110) (hq : bt s (i + 1) ≠ 34) (hb : bt s (i + 1) ≠ 92)
    (hx : bt s (i + 1) = 120 → i + 3 < s.size → hexv (bt s (i + 2)) < 0 ∨ hexv (bt s (i + 3)) < 0) : Evn (fun k => spec_l2Next.f k s i) (0, 0) := by
  have j2 : Evn (fun k => spec_l2Next.j2 k s i false) (0, 0) := Evn.step (g' := fun _ => some (0, 0)) (fun k => by rw [spec_l2Next.j2, if_neg (by decide)]) (Evn.pure _)
  refine Evn.step (g' := fun k => spec_l2Next.f (k + 1) s i) (fun _ => rfl) (Evn.step (fun k => nx_else s i h0 h1 hs hp h hn hq hb k) ?_)
  by_cases c : bt s (i + 1) = 120
  · refine Evn.ite_pos c ?_
    by_cases c2 : i + 3 < s.size
    · refine Evn.ite_pos c2 (Evn.of (fun k => by rw [hexs _ (bt_range s (i + 2)), Option.bind_some]) ?_)
      rcases hx c c2 with hx | hx
      · exact Evn.ite_neg (by omega) j2
      · by_cases c3 : hexv (bt s (i + 2)) ≥ 0
        · exact Evn.ite_pos c3 (Evn.of (fun k => by rw [hexs _ (bt_range s (i + 3)), Option.bind_some, decide_eq_false (by omega)]) j2)
        · exact Evn.ite_neg c3 j2
    · exact Evn.ite_neg c2 j2
  · exact Evn.ite_neg c (Evn.pure _)
theorem nx_x (h0 : 0 ≤ i) (h1 : i + 3 < s.size) (hs : s.size ≤ 1048576) (hp : Qp.plainB (bt s i) ≠ true) (h : bt s i = 92) (hc : bt s (i + 1) = 120) (hx : 0 ≤ hexv (bt s (i + 2))) (hy : 0 ≤ hexv (bt s (i + 3))) :
    Evn (fun k => spec_l2Next.f k s i) ((wrap64 (wrap64 (hexv (bt s (i + 2)) * 16) + hexv (bt s (i + 3)))) % 256, 4) := by
  refine Evn.step (g' := fun k => spec_l2Next.f (k + 1) s i) (fun _ => rfl) (Evn.step (fun k => nx_else s i h0 (by omega) hs hp h (by omega) (by omega) (by omega) k) ?_)
  refine Evn.ite_pos hc (Evn.ite_pos h1 (Evn.of (fun k => by rw [hexs _ (bt_range s (i + 2)), Option.bind_some, if_pos hx, hexs _ (bt_range s (i + 3)), Option.bind_some, decide_eq_true hy]) (Evn.step (g' := fun _ => some _) (fun k => ?_) (Evn.pure _))))
  rw [spec_l2Next.j2, if_pos rfl, w1 (x := i + 2) (by omega), w1 (x := i + 3) (by omega), if_pos (by omega), if_pos (by omega), hexs _ (bt_range s (i + 2)), Option.bind_some, if_pos (by omega), if_pos (by omega), hexs _ (bt_range s (i + 3)), Option.bind_some]
end
abbrev no : ByteArray × Bool := ((⟨#[]⟩ : ByteArray), false)
section
variable (s : ByteArray) (i : Int) (out : List Int)
theorem sp_go {b n : Int} {r : ByteArray × Bool} (h0 : 0 ≤ i) (h1 : i < s.size) (hs : s.size ≤ 1048576) (ho : out.length ≤ 1048576) (hn : 0 < n ∧ n ≤ 4) (h : Evn (fun k => spec_l2Next.f k s i) (b, n)) (hr : Evn (fun k => spec_QuoteGet.l0 k s (out ++ [b]) (i + n)) r) : Evn (fun k => spec_QuoteGet.l0 k s out i) r := by
  have hl : out.length < 140737488355328 := by omega
  have key : ∀ k, spec_QuoteGet.l0 (k + 1) s out i = (spec_l2Next.f k s i).bind fun t => if t.2 = 0 then some no else spec_QuoteGet.l0 k s (out ++ [t.1]) (wrap64 (i + t.2)) := fun k => by
    rw [spec_QuoteGet.l0, if_pos h1]
    refine congrArg (Option.bind _) (funext fun t => ?_)
    rw [if_pos hl]
  have hr2 : Evn (fun k => spec_QuoteGet.l0 k s (out ++ [b]) (wrap64 (i + n))) r := by rw [w1 (x := i + n) (by omega)]; exact hr
  exact Evn.step key (Evn.bind h (Evn.ite_neg (by show ¬ n = 0; omega) hr2))
theorem sp_no {b : Int} (h1 : i < s.size) (h : Evn (fun k => spec_l2Next.f k s i) (b, 0)) : Evn (fun k => spec_QuoteGet.l0 k s out i) no :=
  Evn.step (fun k => by rw [spec_QuoteGet.l0, if_pos h1]) (Evn.bind h (Evn.ite_pos rfl (Evn.pure _)))
theorem im_plain {r : ByteArray × Bool} (h0 : 0 ≤ i) (h1 : i < s.size) (hs : s.size ≤ 1048576) (ho : out.length ≤ 1048576) (hp : Qp.plainB (bt s i) = true) (hr : Evn (fun k => impl_QuoteGet.l0 k s (out ++ [bt s i]) (i + 1)) r) : Evn (fun k => impl_QuoteGet.l0 k s out i) r :=
  Evn.step (fun k => by rw [impl_QuoteGet.l0, if_pos h1, if_pos h0, Qp.plain _ (bt_range s i).1 (bt_range s i).2, Option.bind_some, if_pos hp, if_pos (by omega), w1 (by omega)]) hr
theorem im_bad (h0 : 0 ≤ i) (h1 : i < s.size) (hs : s.size ≤ 1048576) (hp : Qp.plainB (bt s i) ≠ true) (h : bt s i ≠ 92 ∨ (s.size : Int) ≤ i + 1) : Evn (fun k => impl_QuoteGet.l0 k s out i) no := by
  refine Evn.step (g' := fun k => impl_QuoteGet.j2 k s out i true) (fun k => ?_) (Evn.step (g' := fun _ => some no) (fun k => by rw [impl_QuoteGet.j2, if_pos rfl]) (Evn.pure _))
  rw [impl_QuoteGet.l0, if_pos h1, if_pos h0, Qp.plain _ (bt_range s i).1 (bt_range s i).2, Option.bind_some, if_neg hp, w1 (by omega)]
  by_cases c : bt s i = 92
  · rw [if_pos c, show (i + 1 == (s.size : Int)) = true from beq_iff_eq.2 (by omega)]
  · rw [if_neg c]
theorem im_esc (h0 : 0 ≤ i) (h1 : i + 1 < s.size) (hs : s.size ≤ 1048576) (hp : Qp.plainB (bt s i) ≠ true) (h : bt s i = 92) : ∀ k, impl_QuoteGet.l0 (k + 1 + 1) s out i = if bt s (i + 1) = 34 then impl_QuoteGet.j3 k s out (i + 1) (bt s (i + 1)) (bt s (i + 1) == 34) else impl_QuoteGet.j3 k s out (i + 1) (bt s (i + 1)) (bt s (i + 1) == 92) := fun k => by
  rw [impl_QuoteGet.l0, if_pos (by omega), if_pos h0, Qp.plain _ (bt_range s i).1 (bt_range s i).2, Option.bind_some, if_neg hp, if_pos h, w1 (by omega), show (i + 1 == (s.size : Int)) = false from beq_false_of_ne (by omega), impl_QuoteGet.j2, if_neg (by decide), w1 (by omega), if_pos (by omega), if_pos h1]
theorem im_q {r : ByteArray × Bool} (h0 : 0 ≤ i) (h1 : i + 1 < s.size) (hs : s.size ≤ 1048576) (ho : out.length ≤ 1048576) (hp : Qp.plainB (bt s i) ≠ true) (h : bt s i = 92) (hc : bt s (i + 1) = 34 ∨ bt s (i + 1) = 92) (hr : Evn (fun k => impl_QuoteGet.l0 k s (out ++ [bt s (i + 1)]) (i + 2)) r) : Evn (fun k => impl_QuoteGet.l0 k s out i) r := by
  refine Evn.step (g' := fun k => impl_QuoteGet.l0 (k + 1) s out i) (fun _ => rfl) (Evn.step (g' := fun k => impl_QuoteGet.j3 k s out (i + 1) (bt s (i + 1)) true) (fun k => ?_) (Evn.step (fun k => ?_) hr))
  · rw [im_esc s i out h0 h1 hs hp h k]
    rcases hc with hc | hc
    · rw [if_pos hc, hc]; rfl
    · rw [if_neg (by omega), hc]; rfl
  · rw [impl_QuoteGet.j3, if_pos rfl, if_pos (by omega), if_pos h1, if_pos (by omega), w1 (by omega), show i + 1 + 1 = i + 2 by omega]
theorem im_else (h0 : 0 ≤ i) (h1 : i + 1 < s.size) (hs : s.size ≤ 1048576) (ho : out.length ≤ 1048576) (hp : Qp.plainB (bt s i) ≠ true) (h : bt s i = 92) (hq : bt s (i + 1) ≠ 34) (hb : bt s (i + 1) ≠ 92) : ∀ k, impl_QuoteGet.l0 (k + 1 + 1 + 1) s out i = if bt s (i + 1) = 110 then impl_QuoteGet.l0 k s (out ++ [10]) (i + 2) else if bt s (i + 1) = 120 then (impl_unhex.f (s.extract (i + 2).toNat s.size)).bind fun t => if t < 0 then some no else impl_QuoteGet.l0 k s (out ++ [t % 256]) (i + 4) else some no := fun k => by
  rw [im_esc s i out h0 h1 hs hp h, if_neg hq, beq_false_of_ne hb, impl_QuoteGet.j3, if_neg (by decide), w1 (x := i + 1 + 1) (by omega), w1 (x := i + 1 + 2) (by omega), w1 (x := i + 1 + 2 + 1) (by omega), show i + 1 + 1 = i + 2 by omega, show i + 1 + 2 + 1 = i + 4 by omega]
  by_cases c : bt s (i + 1) = 110
  · rw [if_pos c, if_pos c, if_pos (by omega)]
  · rw [if_neg c, if_neg c]
    by_cases c2 : bt s (i + 1) = 120
    · rw [if_pos c2, if_pos c2, if_pos (by omega), if_pos (by omega)]
      refine congrArg (Option.bind _) (funext fun t => ?_)
      by_cases c3 : t < 0
      · rw [if_pos c3, if_pos c3]
      · rw [if_neg c3, if_neg c3, if_pos (by omega)]
    · rw [if_neg c2, if_neg c2]
end
theorem main (s : ByteArray) (hs : s.size ≤ 1048576) : ∀ (N d : Nat) (i : Int) (out : List Int), d ≤ N → i + d = s.size → 0 ≤ i → out.length ≤ i → ∃ r, Evn (fun k => spec_QuoteGet.l0 k s out i) r ∧ Evn (fun k => impl_QuoteGet.l0 k s out i) r ∧ r.1.size ≤ s.size
  | N, 0, i, out, hN, hd, h0, ho => ⟨(strOfNums out, true), Evn.step (g' := fun _ => some (strOfNums out, true)) (fun k => by rw [spec_QuoteGet.l0, if_neg (by omega)]) (Evn.pure _), Evn.step (g' := fun _ => some (strOfNums out, true)) (fun k => by rw [impl_QuoteGet.l0, if_neg (by omega)]) (Evn.pure _), by show (strOfNums out).size ≤ _; rw [Qp.str_size]; omega⟩
  | 0, d + 1, _, _, hN, _, _, _ => by omega
  | N + 1, d + 1, i, out, hN, hd, h0, ho => by
    have h1 : i < s.size := by omega
    by_cases hp : Qp.plainB (bt s i) = true
    · obtain ⟨r, hr, hr', hz⟩ := main s hs N d (i + 1) (out ++ [bt s i]) (by omega) (by omega) (by omega) (by simp; omega)
      exact ⟨r, sp_go s i out h0 h1 hs (by omega) (by decide) (nx_plain s i h0 h1 hp) hr, im_plain s i out h0 h1 hs (by omega) hp hr', hz⟩
    by_cases hb : bt s i ≠ 92 ∨ (s.size : Int) ≤ i + 1
    · exact ⟨no, sp_no s i out h1 (nx_bad s i h0 h1 hs hp hb), im_bad s i out h0 h1 hs hp hb, Nat.zero_le _⟩
    have h92 : bt s i = 92 := by omega
    have h2 : i + 1 < s.size := by omega
    obtain ⟨d2, rfl⟩ : ∃ d2, d = d2 + 1 := ⟨d - 1, by omega⟩
    by_cases hq : bt s (i + 1) = 34 ∨ bt s (i + 1) = 92
    · obtain ⟨r, hr, hr', hz⟩ := main s hs N d2 (i + 2) (out ++ [bt s (i + 1)]) (by omega) (by omega) (by omega) (by simp; omega)
      exact ⟨r, sp_go s i out h0 h1 hs (by omega) (by decide) (nx_q s i h0 h2 hs hp h92 hq) hr, im_q s i out h0 h2 hs (by omega) hp h92 hq hr', hz⟩
    have key := im_else s i out h0 h2 hs (by omega) hp h92 (by omega) (by omega)
    have up : ∀ r, Evn (fun k => impl_QuoteGet.l0 (k + 1 + 1 + 1) s out i) r → Evn (fun k => impl_QuoteGet.l0 k s out i) r := fun r h =>
      Evn.step (g' := fun k => impl_QuoteGet.l0 (k + 1) s out i) (fun _ => rfl) (Evn.step (g' := fun k => impl_QuoteGet.l0 (k + 1 + 1) s out i) (fun _ => rfl) (Evn.step (fun _ => rfl) h))
    by_cases hn : bt s (i + 1) = 110
    · obtain ⟨r, hr, hr', hz⟩ := main s hs N d2 (i + 2) (out ++ [10]) (by omega) (by omega) (by omega) (by simp; omega)
      exact ⟨r, sp_go s i out h0 h1 hs (by omega) (by decide) (nx_n s i h0 h2 hs hp h92 hn) hr, up r (Evn.of key (Evn.ite_pos hn hr')), hz⟩
    by_cases hx : bt s (i + 1) = 120
    case neg => exact ⟨no, sp_no s i out h1 (nx_none s i h0 h2 hs hp h92 hn (by omega) (by omega) (fun e => absurd e hx)), up no (Evn.of key (Evn.ite_neg hn (Evn.ite_neg hx (Evn.pure _)))), Nat.zero_le _⟩
    have hu := unhex s (i + 2) (by omega) hs (by omega)
    rw [show i + 2 + 1 = i + 3 by omega] at hu
    by_cases c3 : i + 3 < s.size
    case neg =>
      rw [if_neg c3] at hu
      exact ⟨no, sp_no s i out h1 (nx_none s i h0 h2 hs hp h92 hn (by omega) (by omega) (fun _ e => absurd e c3)), up no (Evn.of key (Evn.ite_neg hn (Evn.ite_pos hx (Evn.of (fun k => by rw [hu, Option.bind_some, if_pos (by decide)]) (Evn.pure _))))), Nat.zero_le _⟩
    rw [if_pos c3] at hu
    by_cases c4 : hexv (bt s (i + 2)) < 0 ∨ hexv (bt s (i + 3)) < 0
    · have hu' : impl_unhex.f (s.extract (i + 2).toNat s.size) = some (-1) := by
        rw [hu]
        rcases c4 with c4 | c4
        · rw [if_pos c4]
        · by_cases c5 : hexv (bt s (i + 2)) < 0
          · rw [if_pos c5]
          · rw [if_neg c5, if_pos c4]
      exact ⟨no, sp_no s i out h1 (nx_none s i h0 h2 hs hp h92 hn (by omega) (by omega) (fun _ _ => c4)), up no (Evn.of key (Evn.ite_neg hn (Evn.ite_pos hx (Evn.of (fun k => by rw [hu', Option.bind_some, if_pos (by decide)]) (Evn.pure _))))), Nat.zero_le _⟩
    rw [if_neg (by omega), if_neg (by omega)] at hu
    obtain ⟨d4, rfl⟩ : ∃ d4, d2 = d4 + 2 := ⟨d2 - 2, by omega⟩
    have r1 := rng _ (bt_range s (i + 2))
    have r2 := rng _ (bt_range s (i + 3))
    have e : wrap64 (wrap64 (hexv (bt s (i + 2)) * 16) + hexv (bt s (i + 3))) = hexv (bt s (i + 2)) * 16 + hexv (bt s (i + 3)) := by rw [w1 (x := hexv (bt s (i + 2)) * 16) (by omega), w1 (by omega)]
    obtain ⟨r, hr, hr', hz⟩ := main s hs N d4 (i + 4) (out ++ [(wrap64 (wrap64 (hexv (bt s (i + 2)) * 16) + hexv (bt s (i + 3)))) % 256]) (by omega) (by omega) (by omega) (by simp; omega)
    exact ⟨r, sp_go s i out h0 h1 hs (by omega) (by decide) (nx_x s i h0 c3 hs hp h92 hx (by omega) (by omega)) hr, up r (Evn.of key (Evn.ite_neg hn (Evn.ite_pos hx (Evn.of (fun k => by rw [hu, Option.bind_some, if_neg (by rw [e]; omega)]) hr')))), hz⟩
theorem get_ev (a : ByteArray) (hs : a.size ≤ 1048576) : ∃ r, Evn (fun k => spec_QuoteGet.f k a) r ∧ Evn (fun k => impl_QuoteGet.f k a) r ∧ r.1.size ≤ a.size := by
  have bs : Evn (fun k => spec_QuoteGet.j0 k a true) no := Evn.step (g' := fun _ => some no) (fun k => by rw [spec_QuoteGet.j0, if_pos rfl]) (Evn.pure _)
  have bi : Evn (fun k => impl_QuoteGet.j0 k a true) no := Evn.step (g' := fun _ => some no) (fun k => by rw [impl_QuoteGet.j0, if_pos rfl]) (Evn.pure _)
  by_cases c : (a.size : Int) < 2
  · exact ⟨no, Evn.of (fun k => by rw [spec_QuoteGet.f, if_pos c]) bs, Evn.of (fun k => by rw [impl_QuoteGet.f, if_pos c]) bi, Nat.zero_le _⟩
  have e : wrap64 ((a.size : Int) - 1) = (a.size : Int) - 1 := w1 (by omega)
  by_cases c2 : bt a 0 = 34
  case neg => exact ⟨no, Evn.of (fun k => by rw [spec_QuoteGet.f, if_neg c, if_pos (by omega), if_neg c2]) bs, Evn.of (fun k => by rw [impl_QuoteGet.f, if_neg c, if_pos (by omega), if_neg c2]) bi, Nat.zero_le _⟩
  have ks : ∀ k, spec_QuoteGet.f k a = spec_QuoteGet.j0 k a (bt a ((a.size : Int) - 1) != 34) := fun k => by rw [spec_QuoteGet.f, if_neg c, if_pos (by omega), if_pos c2, e, if_pos (by omega), if_pos (by omega)]
  have ki : ∀ k, impl_QuoteGet.f k a = impl_QuoteGet.j0 k a (bt a ((a.size : Int) - 1) != 34) := fun k => by rw [impl_QuoteGet.f, if_neg c, if_pos (by omega), if_pos c2, e, if_pos (by omega), if_pos (by omega)]
  by_cases c3 : (bt a ((a.size : Int) - 1) != 34) = true
  · rw [c3] at ks ki
    exact ⟨no, Evn.of ks bs, Evn.of ki bi, Nat.zero_le _⟩
  · have hz : ((a.extract 1 ((a.size : Int) - 1).toNat).size : Int) = a.size - 2 := by rw [ByteArray.size_extract]; omega
    obtain ⟨r, hr, hr', hz2⟩ := main (a.extract 1 ((a.size : Int) - 1).toNat) (by omega) (a.size - 2) (a.size - 2) 0 [] (by omega) (by omega) (by omega) (by simp)
    refine ⟨r, Evn.of ks (Evn.step (fun k => ?_) hr), Evn.of ki (Evn.step (fun k => ?_) hr'), by omega⟩
    · rw [spec_QuoteGet.j0, if_neg c3, e, if_pos (by omega), if_pos (by omega)]
    · rw [impl_QuoteGet.j0, if_neg c3, e, if_pos (by omega), if_pos (by omega)]
end Go.Proofs.Ytmoaolcioihjnaa.Qg
