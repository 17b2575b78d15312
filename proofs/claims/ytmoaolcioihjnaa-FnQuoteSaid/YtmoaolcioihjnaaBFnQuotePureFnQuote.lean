/-
  FnQuote: the plain law: what the functions compute makes the statement's bool true, whatever the arguments (within the sizes that the row says).
-/
import Derived.Test.YtmoaolcioihjnaaBFnQuoteq3
import Derived.Test.YtmoaolcioihjnaaBFnQuoteDr
import Derived.Test.YtmoaolcioihjnaaBFnQuoteRq
namespace Go.Proofs.Ytmoaolcioihjnaa.Dp
set_option linter.unusedVariables false
set_option linter.unusedSimpArgs false
open Go.RowKit Go.Proofs.Ytmoaolcioihjnaa.Q Go.Proofs.Ytmoaolcioihjnaa.Evs Go.Proofs.YtmoaolcioihjnaaW.PrintWords Go.Proofs.YtmoaolcioihjnaaW.PrintLast
theorem evn_mono {α : Type} {g : Nat → Option α} (hm : ∀ k, LeO (g k) (g (k + 1))) {k : Nat} {r : α} (h : g k = some r) : Evn g r := ⟨k, fun _ hk => at_rounds hm hk h⟩
theorem pickE (l : List Int) (p n : Int) (hl : Bytes l) (hlen : l.length ≤ 2000) (hp : 0 ≤ p) (hp2 : p ≤ 1000000) :
    ∃ v, Evn (fun k => spec_l1Rd_pick.f k l p n) (v, p + 1) ∧ (1 ≤ n → 0 ≤ v ∧ v < n) := by
  obtain ⟨v, h, h1, _⟩ := pick 0 l p n hl hlen hp hp2
  exact ⟨v, evn_mono (fun k => spec_l1Rd_pick.mono l p n k) h, h1⟩
theorem bytes_l0 (l : List Int) (hl : Bytes l) (hlen : l.length ≤ 2000) : ∀ (n : Nat) (xs : List Int) (q : Int), xs.length + n ≤ 8 → 0 ≤ q → q + n ≤ 1000 →
    ∃ s p', Evn (fun k => spec_l14Bytes.l0 k xs (n : Int) l q) (s, p') ∧ s.size ≤ 8 ∧ 0 ≤ p' ∧ p' ≤ q + n
  | 0, xs, q, h1, h2, h3 => ⟨strOfNums xs, q, Evn.step (g' := fun _ => some (strOfNums xs, q)) (fun k => by rw [spec_l14Bytes.l0, if_neg (by omega)]) (Evn.pure _), by rw [Qp.str_size]; omega, h2, by omega⟩
  | n + 1, xs, q, h1, h2, h3 => by
    obtain ⟨v, hv, _⟩ := one 0 l q [97, 98, 122, 32, 10, 34, 92, 0, 255, 127, 120, 49, 200, 9] hl hlen h2 (by omega) (by simp)
    have hv' : Evn (fun k => spec_l1Rd_one.f k l q [97, 98, 122, 32, 10, 34, 92, 0, 255, 127, 120, 49, 200, 9]) (v, q + 1) := evn_mono (fun k => spec_l1Rd_one.mono l q _ k) hv
    obtain ⟨s, p', hr, b1, b2, b3⟩ := bytes_l0 l hl hlen n (xs ++ [v % 256]) (q + 1) (by simp; omega) (by omega) (by omega)
    have hx : xs.length < 140737488355328 := by omega
    have e : wrap64 (((n + 1 : Nat) : Int) - 1) = (n : Int) := by rw [w64 _ (by omega)]; omega
    have key : ∀ k, spec_l14Bytes.l0 (k + 1) xs ((n + 1 : Nat) : Int) l q = (spec_l1Rd_one.f k l q [97, 98, 122, 32, 10, 34, 92, 0, 255, 127, 120, 49, 200, 9]).bind fun b => spec_l14Bytes.l0 k (xs ++ [b.1 % 256]) (n : Int) l b.2 := fun k => by
      rw [spec_l14Bytes.l0, if_pos (by omega), e]
      exact congrArg (Option.bind _) (funext fun b => if_pos hx)
    exact ⟨s, p', Evn.step key (Evn.bind hv' hr), b1, b2, by omega⟩
theorem bytesE (l : List Int) (hl : Bytes l) (hlen : l.length ≤ 2000) : ∃ s p', Evn (fun k => spec_l14Bytes.f k l 0) (s, p') ∧ s.size ≤ 8 ∧ 0 ≤ p' ∧ p' ≤ 100 := by
  obtain ⟨v, hv, b⟩ := pickE l 0 8 hl hlen (by decide) (by decide)
  have b := b (by decide)
  obtain ⟨s, p', hr, b1, b2, b3⟩ := bytes_l0 l hl hlen v.toNat [] (0 + 1) (by simp; omega) (by decide) (by omega)
  rw [show ((v.toNat : Nat) : Int) = v by omega] at hr b3
  exact ⟨s, p', Evn.bind hv hr, b1, b2, by omega⟩
theorem putE (a : ByteArray) (h : a.size ≤ 1048576) : Evn (fun k => spec_QuotePut.f k a) (Qp.quoted a) := ⟨a.size + 1, fun k hk => Qp.spec_put k a (by omega) h⟩
theorem iputE (a : ByteArray) (h : a.size ≤ 1048576) : Evn (fun k => impl_QuotePut.f k a) (Qp.quoted a) := ⟨a.size + 1, fun k hk => Qp.impl_put k a (by omega) h⟩
theorem quoted_size (a : ByteArray) : (Qp.quoted a).size ≤ 4 * a.size + 2 := by
  unfold Qp.quoted
  rw [Qp.str_size]
  have := Qp.escs_len a a.size 0
  simp
  omega
theorem drawPut (l : List Int) (hl : Bytes l) : ∃ s, Evn (fun k => spec_DrawQuotePut.f k l) s ∧ s.size ≤ 8 := by
  obtain ⟨m, h1, hm, hlen⟩ := opened l hl
  obtain ⟨s, p', hr, b1, _⟩ := bytesE m hm hlen
  refine ⟨s, Evn.of (fun k => by rw [spec_DrawQuotePut.f, h1, Option.bind_some]) (Evn.bind hr (Evn.pure _)), b1⟩
theorem cut_size (t : ByteArray) (a b : Nat) : (t.extract a b).size ≤ t.size := by rw [ByteArray.size_extract]; omega
theorem of_size (v : Int) (h0 : 0 ≤ v) (h1 : v < 6) : (rdOf ByteArray.empty [(⟨#[92]⟩ : ByteArray), (⟨#[34]⟩ : ByteArray), (⟨#[92, 120, 52]⟩ : ByteArray), (⟨#[92, 113]⟩ : ByteArray), (⟨#[128]⟩ : ByteArray), (⟨#[]⟩ : ByteArray)] v).size ≤ 3 := by
  have : v = 0 ∨ v = 1 ∨ v = 2 ∨ v = 3 ∨ v = 4 ∨ v = 5 := by omega
  rcases this with rfl | rfl | rfl | rfl | rfl | rfl <;> decide
theorem drawGet (l : List Int) (hl : Bytes l) : ∃ t, Evn (fun k => spec_DrawQuoteGet.f k l) t ∧ t.size ≤ 200 := by
  obtain ⟨m, h1, hm, hlen⟩ := opened l hl
  obtain ⟨s, p1, hr, b1, b2, b3⟩ := bytesE m hm hlen
  have hq := quoted_size s
  have hp := putE s (by omega)
  generalize Qp.quoted s = q at hp hq
  obtain ⟨v, hv, _⟩ := pickE m p1 4 hm hlen b2 (by omega)
  have e : wrap64 ((q.size : Int) + 1) = (q.size : Int) + 1 := w64 _ (by omega)
  obtain ⟨w, hw, bw⟩ := pickE m (p1 + 1) (wrap64 ((q.size : Int) + 1)) hm hlen (by omega) (by omega)
  rw [e] at bw
  have bw := bw (by omega)
  have start : ∀ {g : Nat → Option ByteArray} {t : ByteArray}, (∀ k, spec_DrawQuoteGet.f k l = g k) → Evn g t → Evn (fun k => spec_DrawQuoteGet.f k l) t := fun h e => Evn.of h e
  by_cases c : v = 0
  · obtain ⟨z, hz, bz⟩ := pickE m (p1 + 1 + 1) ((([(⟨#[92]⟩ : ByteArray), (⟨#[34]⟩ : ByteArray), (⟨#[92, 120, 52]⟩ : ByteArray), (⟨#[92, 113]⟩ : ByteArray), (⟨#[128]⟩ : ByteArray), (⟨#[]⟩ : ByteArray)] : List ByteArray).length : Nat) : Int) hm hlen (by omega) (by omega)
    have bz : 0 ≤ z ∧ z < 6 := bz (by decide)
    have hz6 := of_size z bz.1 bz.2
    have hof : Evn (fun k => spec_l1Rd_of.f k m (p1 + 1 + 1) [(⟨#[92]⟩ : ByteArray), (⟨#[34]⟩ : ByteArray), (⟨#[92, 120, 52]⟩ : ByteArray), (⟨#[92, 113]⟩ : ByteArray), (⟨#[128]⟩ : ByteArray), (⟨#[]⟩ : ByteArray)]) (rdOf ByteArray.empty [(⟨#[92]⟩ : ByteArray), (⟨#[34]⟩ : ByteArray), (⟨#[92, 120, 52]⟩ : ByteArray), (⟨#[92, 113]⟩ : ByteArray), (⟨#[128]⟩ : ByteArray), (⟨#[]⟩ : ByteArray)] z, p1 + 1 + 1 + 1) :=
      Evn.bind hz (Evn.ite_pos bz.1 (Evn.ite_pos bz.2 (Evn.pure _)))
    generalize rdOf ByteArray.empty [(⟨#[92]⟩ : ByteArray), (⟨#[34]⟩ : ByteArray), (⟨#[92, 120, 52]⟩ : ByteArray), (⟨#[92, 113]⟩ : ByteArray), (⟨#[128]⟩ : ByteArray), (⟨#[]⟩ : ByteArray)] z = b at hof hz6
    have s1 := cut_size q 0 w.toNat
    have s2 := cut_size q w.toNat q.size
    refine ⟨q.extract 0 w.toNat ++ b ++ q.extract w.toNat q.size, ?_, by rw [ByteArray.size_append, ByteArray.size_append]; omega⟩
    refine Evn.of (fun k => by rw [spec_DrawQuoteGet.f, h1, Option.bind_some]) (Evn.bind hr (Evn.bind hp (Evn.bind hv (Evn.ite_pos c (Evn.bind hw (Evn.ite_pos bw.1 (Evn.ite_pos ?_ (Evn.bind hof (Evn.ite_pos ?_ (Evn.ite_pos ?_ (Evn.pure _)))))))))))
    · show w ≤ (q.size : Int); omega
    · show (q.extract 0 w.toNat).size + b.size ≤ _; omega
    · show (q.extract 0 w.toNat ++ b).size + (q.extract w.toNat q.size).size ≤ _; rw [ByteArray.size_append]; omega
  by_cases c1 : v = 1
  · have s1 := cut_size q 0 w.toNat
    refine ⟨q.extract 0 w.toNat, ?_, by omega⟩
    refine Evn.of (fun k => by rw [spec_DrawQuoteGet.f, h1, Option.bind_some]) (Evn.bind hr (Evn.bind hp (Evn.bind hv (Evn.ite_neg c (Evn.ite_pos c1 (Evn.bind hw (Evn.ite_pos bw.1 (Evn.ite_pos ?_ (Evn.pure _)))))))))
    show w ≤ (q.size : Int); omega
  · exact ⟨q, Evn.of (fun k => by rw [spec_DrawQuoteGet.f, h1, Option.bind_some]) (Evn.bind hr (Evn.bind hp (Evn.bind hv (Evn.ite_neg c (Evn.ite_neg c1 (Evn.pure _)))))), by omega⟩
theorem ne_self (a : List UInt8) : (a != a) = false := by simp
theorem FnQuote : laws_FnQuote.Pure := by
  intro l0 l1 _ _ hb0 _ _ hb1
  refine Evn.at ?_
  have stop : Evn (fun k => laws_FnQuote.j0 k l0 l1 true) true := Evn.step (g' := fun _ => some true) (fun k => by rw [laws_FnQuote.j0, if_pos rfl]) (Evn.pure _)
  by_cases c0 : (l0.length : Int) > 1048576
  · exact Evn.of (fun k => by rw [laws_FnQuote.f, if_pos c0]) stop
  by_cases c1 : (l1.length : Int) > 1048576
  · exact Evn.of (fun k => by rw [laws_FnQuote.f, if_neg c0, decide_eq_true c1]) stop
  obtain ⟨s, hs, bs⟩ := drawPut l0 (bytes_of hb0)
  obtain ⟨t, ht, bt⟩ := drawGet l1 (bytes_of hb1)
  obtain ⟨r, hr, hr', br⟩ := Qg.get_ev t (by omega)
  refine Evn.of (fun k => by rw [laws_FnQuote.f, if_neg c0, decide_eq_false c1]) (Evn.step (fun k => by rw [laws_FnQuote.j0, if_neg (by decide)]) (Evn.bind hs (Evn.bind (iputE s (by omega)) (Evn.bind (Qg.get_put s (by omega)) (Evn.bind (putE s (by omega)) (Evn.ite_pos rfl (Evn.ite_pos rfl ?_)))))))
  have hne : ¬ ((r.2 != r.2) = true) := by cases r.2 <;> decide
  refine Evn.of (g' := fun k => laws_FnQuote.j1 k l1 false) (fun k => by rw [ne_self]) ?_
  refine Evn.step (fun k => by rw [laws_FnQuote.j1, if_neg (by decide)]) (Evn.bind ht (Evn.bind hr' (Evn.bind hr (Evn.ite_pos rfl (Evn.ite_neg hne ?_)))))
  cases hf : r.2 with
  | false =>
    refine Evn.step (g' := fun _ => some true) (fun k => ?_) (Evn.pure _)
    rw [laws_FnQuote.j2, if_pos (show (!false) = true from rfl), if_pos rfl]; rfl
  | true =>
    refine Evn.step (fun k => by rw [laws_FnQuote.j2, if_neg (by decide)]) (Evn.bind (iputE r.1 (by omega)) (Evn.bind (Qg.get_put r.1 (by omega)) (Evn.ite_pos rfl (Evn.of (fun k => ?_) (Evn.pure true)))))
    simp
end Go.Proofs.Ytmoaolcioihjnaa.Dp
namespace Go.Proofs.Ytmoaolcioihjnaa.Pure
theorem FnQuote : Go.Proofs.Ytmoaolcioihjnaa.Q.laws_FnQuote.Pure := Go.Proofs.Ytmoaolcioihjnaa.Dp.FnQuote
end Go.Proofs.Ytmoaolcioihjnaa.Pure
