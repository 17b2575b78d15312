import Derived.Test.YtoajejdicfabmaaDoorBFnValueCmpCe
namespace Go.Proofs.YtoajejdicfabmaaDoor.Cx
set_option linter.unusedVariables false
set_option linter.unusedSimpArgs false
open Go.RowKit Go.Proofs.YtoajejdicfabmaaDoor.Q Go.Proofs.YtoajejdicfabmaaDoor.Th Go.Proofs.YtoajejdicfabmaaDoor.Evs Go.Proofs.YtoajejdicfabmaaDoor.Tv Go.Proofs.YtoajejdicfabmaaDoor.Vo Go.Proofs.YtoajejdicfabmaaDoor.Dw Go.Proofs.YtoajejdicfabmaaDoor.Nr Go.Proofs.YtoajejdicfabmaaDoor.Ce Go.Proofs.YtoajejdicfabmaaDoorW.PrintWords Go.Proofs.YtoajejdicfabmaaDoorW.PrintLast
theorem j2_ev (a c : S33) (ha : Lo 30 a) (hc : Lo 30 c) (b : Bool) (h : b = false → R 30 a c ≤ 0) : Evn (fun k => laws_FnValueCmp.j2 k b [Nm.words] a.f0 a.f1.f0 a.f1.f1 a.f2 a.f3 a.f4 c.f0 c.f1.f0 c.f1.f1 c.f2 c.f3 c.f4) true := by
 refine Evn.step (fun k => by rw [laws_FnValueCmp.j2]) ?_
 cases b with
 | true => exact Evn.ite_pos rfl (Evn.pure _)
 | false =>
  have h1 := impl_ev 30 (by omega) a c ha hc
  refine Evn.ite_neg (by decide) (Evn.bind h1 ?_)
  rw [decide_eq_true (h rfl)]
  exact Evn.pure _
theorem j1_ev (l : List Int) (hl : Bytes l) (a b : S33) (ha : Lo 30 a) (hb : Lo 30 b) : Evn (fun k => laws_FnValueCmp.j1 k l (R 30 a b) false [Nm.words] a.f0 a.f1.f0 a.f1.f1 a.f2 a.f3 a.f4 b.f0 b.f1.f0 b.f1.f1 b.f2 b.f3 b.f4) true := by
 obtain ⟨c, d, hcd, hc, _⟩ := draw_ev l hl
 have hcL := D4.lo 30 c hc
 have oa := (Lk.ok2_ev 30 (by omega) a ha).1
 have ob := (Lk.ok2_ev 30 (by omega) b hb).1
 have oc := (Lk.ok2_ev 30 (by omega) c hcL).1
 have yes := j2_ev a c ha hcL true (fun h => by cases h)
 refine Evn.step (fun k => by rw [laws_FnValueCmp.j1, if_neg (by decide)]) (Evn.bind hcd (Evn.bind oa ?_))
 by_cases ca : Lk.rok 30 a = true
 ·refine Evn.ite_pos ca (Evn.bind ob ?_)
  by_cases cb : Lk.rok 30 b = true
  ·refine Evn.ite_pos cb (Evn.bind oc ?_)
   by_cases cc : Lk.rok 30 c = true
   ·refine Evn.ite_pos cc ?_
    by_cases k0 : R 30 a b > 0
    ·exact Evn.ite_pos k0 yes
    ·refine Evn.ite_neg k0 (Evn.bind (impl_ev 30 (by omega) b c hb hcL) (j2_ev a c ha hcL _ (fun h => ?_)))
     have h := of_decide_eq_false h
     exact R_trans 30 a b c ca cb cc (by omega) (by omega)
   ·exact Evn.ite_neg cc yes
  ·exact Evn.ite_neg cb yes
 ·exact Evn.ite_neg ca yes
theorem law (l m : List Int) (hl : Bytes l) (hm : Bytes m) : Evn (fun k => laws_FnValueCmp.f k l m [Nm.words]) true := by
 have hj : ∀ b, Evn (fun k => laws_FnValueCmp.j0 k l m b [Nm.words]) true := fun b => by
  refine Evn.step (fun k => by rw [laws_FnValueCmp.j0]) ?_
  cases b with
  | true => exact Evn.ite_pos rfl (Evn.pure _)
  | false =>
   obtain ⟨a, b, hab, ha, hb⟩ := draw_ev l hl
   have haL := D4.lo 30 a ha
   have hbL := D4.lo 30 b hb
   have hr := R_range 30 a b
   refine Evn.ite_neg (by decide) (Evn.bind hab (Evn.bind (impl_ev 30 (by omega) a b haL hbL) (Evn.bind (spec_ev 30 (by omega) a b haL hbL) (Evn.ite_pos rfl (Evn.bind (impl_ev 30 (by omega) b a hbL haL) (Evn.ite_pos ?_ (Evn.ite_neg (by omega) ?_)))))))
   ·rw [R_swap, wrap64_id (by omega) (by omega)]
   ·rw [decide_eq_false (show ¬ R 30 a b > 1 by omega)]
    exact j1_ev m hm a b haL hbL
 unfold laws_FnValueCmp.f
 by_cases c : (l.length : Int) > 1048576
 ·exact Evn.ite_pos c (hj true)
 ·exact Evn.ite_neg c (hj _)
end Go.Proofs.YtoajejdicfabmaaDoor.Cx
