/- The plain law of FnExactIsBody. No conditions. -/
import Derived.Test.YtilhgalgnhlgdaaStatFnExactIsBody
import Derived.Test.YtilhgalgnhlgdaaBody
namespace Go.Proofs.Ytilhgalgnhlgdaa.fnExactIsBody
open Go.RowKit Go.Proofs.Ytilhgalgnhlgdaa.XAll Go.Proofs.Ytilhgalgnhlgdaa.Plain Go.Proofs.Ytilhgalgnhlgdaa.PureCells Go.Proofs.Ytilhgalgnhlgdaa.PureBody Go.Proofs.YtilhgalgnhlgdaaW.PrintWords Go.Proofs.YtilhgalgnhlgdaaW.PrintLast Go.Proofs.YtilhgalgnhlgdaaW.PrintMore
set_option linter.unusedVariables false
theorem pure : Pure := by
  intro l hl _
  obtain ⟨t, ht, hlen⟩ := szIntA2S_eq l (by omega)
  refine Ev.rounds ?_
  unfold laws_FnExactIsBody.f
  refine somb ht (ifc (fun _ => done rfl) fun hneg => ?_)
  have hm := hlen hneg
  have hto := toIntA2S_ev l (by omega)
  have heq := eqIntA2S_ev l (by omega)
  obtain ⟨r, e1, e2, _⟩ := isBody_ev l hm
  have e3 : Ev (fun k => spec_IsBody.f k l) r := by unfold spec_IsBody.f; exact Ev.bind e1 (done rfl)
  refine Ev.bind hto (Ev.bind e3 (Ev.bind hto (Ev.bind e2 (ifn (by simp) (Ev.bind hto (Ev.bind heq ?_))))))
  exact ifp (Eq.refl true) (done rfl)
end Go.Proofs.Ytilhgalgnhlgdaa.fnExactIsBody
