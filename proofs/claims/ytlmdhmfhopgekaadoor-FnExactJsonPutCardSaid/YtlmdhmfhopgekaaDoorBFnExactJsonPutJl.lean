import Derived.Test.YtlmdhmfhopgekaaDoorBFnExactJsonPutPt
import Derived.Test.YtlmdhmfhopgekaaDoorBFnExactJsonPutq4
namespace Go.Proofs.YtlmdhmfhopgekaaDoor.Jl
set_option linter.unusedVariables false
set_option linter.unusedSimpArgs false
open Go.RowKit Go.Proofs.YtlmdhmfhopgekaaDoor.Q Go.Proofs.YtlmdhmfhopgekaaDoor.Evs Go.Proofs.YtlmdhmfhopgekaaDoor.Th Go.Proofs.YtlmdhmfhopgekaaDoor.Tv Go.Proofs.YtlmdhmfhopgekaaDoor.Pt Go.Proofs.YtlmdhmfhopgekaaDoorW.PrintWords Go.Proofs.YtlmdhmfhopgekaaDoorW.PrintLast
theorem json_both (m : Nat) (hm : m ≤ 2000000) (z : S33) (hL : Lo m z) (hc : cI m z ≤ 1048577) (l : List Int) : ∃ r, Evn (fun k => spec_JsonPut.f k z.f0 z.f1.f0 z.f1.f1 z.f2 z.f3 z.f4) r ∧ Evn (fun k => impl_JsonPut.f k z.f0 z.f1.f0 z.f1.f1 z.f2 z.f3 z.f4 [Nm.words] l) r := by
 obtain ⟨b, hb, hb', hB⟩ := Vo.ok_ev m hm z hL
 by_cases c : b = true
 ·obtain ⟨hd, hA⟩ := hB c
  subst c
  refine ⟨P false m z e0, ?_, ?_⟩
  ·unfold spec_JsonPut.f
   exact Evn.bind hb (Evn.ite_pos rfl (Evn.bind (put_ev m z hL hA hd hc) (Evn.pure _)))
  ·unfold impl_JsonPut.f
   exact Evn.bind hb' (Evn.ite_pos rfl (Evn.bind (lay_ev false l m z e0 hL hA (by rw [show e0.size = 0 from rfl]; omega) hc) (Evn.pure _)))
 ·refine ⟨e0, ?_, ?_⟩
  ·unfold spec_JsonPut.f
   exact Evn.bind hb (Evn.ite_neg c (Evn.pure _))
  ·unfold impl_JsonPut.f
   exact Evn.bind hb' (Evn.ite_neg c (Evn.pure _))
theorem law (n : Nat) (x : S27) (hf : Fine n x) (l : List Int) : Evn (fun k => laws_FnExactJsonPut.f k x.f0 x.f1.f0 x.f1.f1 x.f2 x.f3 x.f4 [Nm.words] l) true := by
 unfold laws_FnExactJsonPut.f
 obtain ⟨r, hr, hrl, hrL⟩ := Tv.sz_ev n x hf 1048576 (by omega) (by omega)
 refine Evn.bind hr ?_
 by_cases c : r < 0
 ·exact Evn.ite_pos c (Evn.pure _)
 refine Evn.ite_neg c ?_
 obtain ⟨⟨m, hm, hL⟩, hC⟩ := hrL (by omega)
 obtain ⟨z, hz, hLo, hcz⟩ := Tv.to_ev m x hL
 have hcc := hC m
 have hcm := hcz m
 obtain ⟨t, ht, ht'⟩ := json_both m (by omega) z hLo (by omega) l
 exact Evn.bind hz (Evn.bind ht (Evn.bind hz (Evn.bind ht' (Evn.ite_pos rfl (Evn.bind hz (Evn.bind (Tv.eq_ev m z hLo) (Evn.ite_pos rfl (Evn.pure _))))))))
end Go.Proofs.YtlmdhmfhopgekaaDoor.Jl
