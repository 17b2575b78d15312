import Derived.Test.YtnneomlmienbaaaTn
import Derived.Test.YtnneomlmienbaaaQ3
import Derived.Test.YtnneomlmienbaaaQ4
namespace Go.Proofs.Ytnneomlmienbaaa.Tn
set_option linter.unusedVariables false
set_option linter.unusedSimpArgs false
open Go.RowKit Go.Proofs.Ytnneomlmienbaaa.Q Go.Proofs.Ytnneomlmienbaaa.Evs Go.Proofs.YtnneomlmienbaaaW.PrintWords Go.Proofs.YtnneomlmienbaaaW.PrintLast
theorem FnExactTreeSize (n : Nat) (x : S26) (hf : Fine n x) : ∃ k, laws_FnExactTreeSize.f k x.f0 x.f1 x.f2.f0 x.f2.f1 x.f3 = some true := by
  refine Evn.at ?_
  obtain ⟨r, hr, _, hL⟩ := sz_ev n x hf 1048576 (by decide) (by decide)
  by_cases c : r < 0
  · exact Evn.bind hr (Evn.ite_pos c (Evn.pure _))
  obtain ⟨z, hz, hzL⟩ := to_ev n x (hL (by omega))
  obtain ⟨t, ht, ht'⟩ := size_ev n z hzL
  exact Evn.bind hr (Evn.ite_neg c (Evn.bind hz (Evn.bind ht (Evn.bind hz (Evn.bind ht' (Evn.ite_pos rfl (Evn.bind hz (Evn.bind (eq_ev n z hzL) (Evn.ite_pos rfl (Evn.pure _))))))))))
theorem FnExactTreeDeep (n : Nat) (x : S26) (hf : Fine n x) : ∃ k, laws_FnExactTreeDeep.f k x.f0 x.f1 x.f2.f0 x.f2.f1 x.f3 = some true := by
  refine Evn.at ?_
  obtain ⟨r, hr, _, hL⟩ := sz_ev n x hf 1048576 (by decide) (by decide)
  by_cases c : r < 0
  · exact Evn.bind hr (Evn.ite_pos c (Evn.pure _))
  obtain ⟨z, hz, hzL⟩ := to_ev n x (hL (by omega))
  obtain ⟨t, ht, ht'⟩ := deep_ev n z hzL
  exact Evn.bind hr (Evn.ite_neg c (Evn.bind hz (Evn.bind ht (Evn.bind hz (Evn.bind ht' (Evn.ite_pos rfl (Evn.bind hz (Evn.bind (eq_ev n z hzL) (Evn.ite_pos rfl (Evn.pure _))))))))))
end Go.Proofs.Ytnneomlmienbaaa.Tn
