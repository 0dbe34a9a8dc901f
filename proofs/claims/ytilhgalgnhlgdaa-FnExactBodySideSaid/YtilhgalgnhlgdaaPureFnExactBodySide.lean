/- The plain law of FnExactBodySide. No conditions. -/
import Derived.Test.YtilhgalgnhlgdaaStatFnExactBodySide
import Derived.Test.YtilhgalgnhlgdaaBody
import Derived.Test.YtilhgalgnhlgdaaSide
namespace Go.Proofs.Ytilhgalgnhlgdaa.fnExactBodySide
open Go.RowKit Go.Proofs.Ytilhgalgnhlgdaa.XAll Go.Proofs.Ytilhgalgnhlgdaa.Plain Go.Proofs.Ytilhgalgnhlgdaa.PureCells Go.Proofs.Ytilhgalgnhlgdaa.PureBody Go.Proofs.Ytilhgalgnhlgdaa.PureSide Go.Proofs.YtilhgalgnhlgdaaW.PrintWords Go.Proofs.YtilhgalgnhlgdaaW.PrintLast Go.Proofs.YtilhgalgnhlgdaaW.PrintMore
set_option linter.unusedVariables false
theorem both (l : List Cl) (hn : l.length ≤ 1048576) : ∃ r, Ev (fun k => spec_BodySide.f k l) r ∧ Ev (fun k => impl_BodySide.f k l) r := by
  obtain ⟨r, e1, e2, hv⟩ := isBody_ev l hn
  unfold spec_BodySide.f impl_BodySide.f
  cases r with
  | false => exact ⟨(0, false), Ev.bind e1 (ifn Bool.false_ne_true (done rfl)), Ev.bind e2 (ifn Bool.false_ne_true (done rfl))⟩
  | true =>
    obtain ⟨s, f1, f2⟩ := side_ev l (hv rfl)
    exact ⟨(s, true), Ev.bind e1 (ifp (Eq.refl true) (Ev.bind f1 (done rfl))), Ev.bind e2 (ifp (Eq.refl true) (Ev.bind f2 (done rfl)))⟩
theorem pure : Pure := by
  intro l hl _
  obtain ⟨t, ht, hlen⟩ := szIntA2S_eq l (by omega)
  refine Ev.rounds ?_
  unfold laws_FnExactBodySide.f
  refine somb ht (ifc (fun _ => done rfl) fun hneg => ?_)
  have hm := hlen hneg
  have hto := toIntA2S_ev l (by omega)
  have heq := eqIntA2S_ev l (by omega)
  obtain ⟨r, e1, e2⟩ := both l hm
  refine Ev.bind hto (Ev.bind e1 (Ev.bind hto (Ev.bind e2 (ifp (Eq.refl r.1) ?_))))
  refine Ev.step (fun k => by simp only [laws_FnExactBodySide.j0]; exact rfl) (ifn (by simp) (Ev.bind hto (Ev.bind heq ?_)))
  exact ifp (Eq.refl true) (done rfl)
end Go.Proofs.Ytilhgalgnhlgdaa.fnExactBodySide
