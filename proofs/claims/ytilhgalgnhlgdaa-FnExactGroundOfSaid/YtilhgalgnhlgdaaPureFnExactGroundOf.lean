/- The plain law of FnExactGroundOf. No conditions. -/
import Derived.Test.YtilhgalgnhlgdaaStatFnExactGroundOf
import Derived.Test.YtilhgalgnhlgdaaBody
namespace Go.Proofs.Ytilhgalgnhlgdaa.fnExactGroundOf
open Go.RowKit Go.Proofs.Ytilhgalgnhlgdaa.XAll Go.Proofs.Ytilhgalgnhlgdaa.Plain Go.Proofs.Ytilhgalgnhlgdaa.PureCells Go.Proofs.Ytilhgalgnhlgdaa.PureBody Go.Proofs.YtilhgalgnhlgdaaW.PrintWords Go.Proofs.YtilhgalgnhlgdaaW.PrintLast Go.Proofs.YtilhgalgnhlgdaaW.PrintMore
set_option linter.unusedVariables false
theorem both (l : List Cl) (hn : l.length ≤ 1048576) : ∃ r, Ev (fun k => spec_GroundOf.f k l) r ∧ Ev (fun k => impl_GroundOf.f k l) r := by
  obtain ⟨r, e1, e2, hv⟩ := isBody_ev l hn
  unfold spec_GroundOf.f impl_GroundOf.f
  cases r with
  | false => exact ⟨(0, 0, false), Ev.bind e1 (ifn Bool.false_ne_true (done rfl)), Ev.bind e2 (ifn Bool.false_ne_true (done rfl))⟩
  | true =>
    obtain ⟨a, b, f1, f2, _⟩ := ground_ev l (hv rfl)
    exact ⟨(a, b, true), Ev.bind e1 (ifp (Eq.refl true) (Ev.bind f1 (done rfl))), Ev.bind e2 (ifp (Eq.refl true) (Ev.bind f2 (done rfl)))⟩
theorem pure : Pure := by
  intro l hl _
  obtain ⟨t, ht, hlen⟩ := szIntA2S_eq l (by omega)
  refine Ev.rounds ?_
  unfold laws_FnExactGroundOf.f
  refine somb ht (ifc (fun _ => done rfl) fun hneg => ?_)
  have hm := hlen hneg
  have hto := toIntA2S_ev l (by omega)
  have heq := eqIntA2S_ev l (by omega)
  obtain ⟨r, e1, e2⟩ := both l hm
  refine Ev.bind hto (Ev.bind e1 (Ev.bind hto (Ev.bind e2 (ifp (Eq.refl r.1) (ifp (Eq.refl r.2.1) ?_)))))
  refine Ev.step (fun k => by simp only [laws_FnExactGroundOf.j0]; exact rfl) (ifn (by simp) (Ev.bind hto (Ev.bind heq ?_)))
  exact ifp (Eq.refl true) (done rfl)
end Go.Proofs.Ytilhgalgnhlgdaa.fnExactGroundOf
