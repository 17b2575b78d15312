import Derived.Test.YtmdpjfmkhnjilaaDoorBFnExactTomlPutTm
import Derived.Test.YtmdpjfmkhnjilaaDoorBFnExactTomlPutq4
namespace Go.Proofs.YtmdpjfmkhnjilaaDoor.Tl
set_option linter.unusedVariables false
set_option linter.unusedSimpArgs false
open Go.RowKit Go.Proofs.YtmdpjfmkhnjilaaDoor.Q Go.Proofs.YtmdpjfmkhnjilaaDoor.Evs Go.Proofs.YtmdpjfmkhnjilaaDoor.Tv Go.Proofs.YtmdpjfmkhnjilaaDoorW.PrintWords Go.Proofs.YtmdpjfmkhnjilaaDoorW.PrintLast
theorem law (n : Nat) (x : S27) (hf : Fine n x) (l : List Int) : Evn (fun k => laws_FnExactTomlPut.f k x.f0 x.f1.f0 x.f1.f1 x.f2 x.f3 x.f4 [Nm.words] l) true := by
 unfold laws_FnExactTomlPut.f
 obtain ⟨r, hr, hrl, hrL⟩ := Tv.sz_ev n x hf 1048576 (by omega) (by omega)
 refine Evn.bind hr ?_
 by_cases c : r < 0
 ·exact Evn.ite_pos c (Evn.pure _)
 refine Evn.ite_neg c ?_
 obtain ⟨⟨m, hm, hL⟩, hC⟩ := hrL (by omega)
 obtain ⟨z, hz, hLo, hcz⟩ := Tv.to_ev m x hL
 have hcc := hC m
 have hcm := hcz m
 obtain ⟨t, ht, ht'⟩ := Tm.toml_both m (by omega) z hLo (by omega) l
 refine Evn.bind hz (Evn.bind ht (Evn.bind hz (Evn.bind ht' (Evn.ite_pos rfl ?_))))
 have e : (t.2 != t.2) = false := by simp
 rw [e]
 refine Evn.step (fun k => by rw [laws_FnExactTomlPut.j0, if_neg (by decide)]) ?_
 exact Evn.bind hz (Evn.bind (Tv.eq_ev m z hLo) (Evn.ite_pos rfl (Evn.pure _)))
end Go.Proofs.YtmdpjfmkhnjilaaDoor.Tl
