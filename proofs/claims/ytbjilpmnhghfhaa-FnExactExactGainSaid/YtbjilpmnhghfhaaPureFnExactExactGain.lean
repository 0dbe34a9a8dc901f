/- The plain law of FnExactExactGain: the program goes through the choices of stages in the order in which the reference lists them. No conditions. -/
import Derived.Test.YtbjilpmnhghfhaaStatFnExactExactGain
import Derived.Test.YtbjilpmnhghfhaaGainExact
import Derived.Test.YtbjilpmnhghfhaaMarkStages
import Derived.Test.YtbjilpmnhghfhaaEqInts
import Derived.Test.YtbjilpmnhghfhaaHeldInts
namespace Go.Proofs.Ytbjilpmnhghfhaa.fnExactExactGain
open Go.RowKit Go.Proofs.Ytbjilpmnhghfhaa.XGa Go.Proofs.Ytbjilpmnhghfhaa.Plain Go.Proofs.Ytbjilpmnhghfhaa.PureStage Go.Proofs.Ytbjilpmnhghfhaa.PureGainExact Go.Proofs.Ytbjilpmnhghfhaa.PureMarkStages Go.Proofs.Ytbjilpmnhghfhaa.PureEqInts Go.Proofs.Ytbjilpmnhghfhaa.PureMarkInts Go.Proofs.Ytbjilpmnhghfhaa.PureHeldInts Go.Proofs.YtbjilpmnhghfhaaW.PrintWords Go.Proofs.YtbjilpmnhghfhaaW.PrintLast Go.Proofs.YtbjilpmnhghfhaaW.PrintMore
set_option linter.unusedVariables false
theorem pure : Pure := by
  intro l p hl _ _
  obtain ⟨t, ht, hlen⟩ := szStageS_eq l (by omega)
  refine Ev.rounds ?_
  unfold laws_FnExactExactGain.f
  refine somb ht (ifc (fun _ => done rfl) fun hneg => ?_)
  have hm := hlen hneg
  have hto := toStageS_ev l (by omega)
  have hcl : (l.map cv).length ≤ 1048576 := by rw [List.length_map]; omega
  have e1 := spec_ev (l.map cv) (by omega) p
  have e2 := impl_ev (l.map cv) (by omega) p
  have hr := few_len p (l.map cv)
  generalize few p (l.map cv) = r at e1 e2 hr
  have q := eqIntS_ev r.1 (by omega)
  obtain ⟨R1, m1⟩ := markStageS_ev (l.map cv) hcl 1 (by omega) (by omega)
  obtain ⟨R3, m3, m3l, m3r⟩ := markIntS_ev r.1 (by omega) 1 (by omega) (by omega)
  have h3 := heldIntS_ev R3 r.1.length m3l (by omega) 1 (by omega) (by omega) m3r
  have hneg : ¬ (1 + (r.1.length : Int)) < 0 := by omega
  have hneg2 : ¬ (1 + ((3 * (l.map cv).length : Nat) : Int)) < 0 := by omega
  have last : Ev (fun k => laws_FnExactExactGain.j2 k R3 (1 + (r.1.length : Int)) (r.2 != r.2)) true := by
    refine Ev.step (fun k => by simp only [laws_FnExactExactGain.j2]; exact rfl) (ifn (by simp) (Ev.bind h3 (ifn hneg ?_)))
    exact ifp rfl (done rfl)
  have mid : Ev (fun k => laws_FnExactExactGain.j1 k l p r.1 r.2 r.1 (r.2 != r.2)) true := by
    refine Ev.step (fun k => by simp only [laws_FnExactExactGain.j1]; exact rfl) (ifn (by simp) (Ev.bind m3 (Ev.bind h3 (ifn hneg (ifp rfl (Ev.bind hto (Ev.bind e2 (Ev.bind q ?_))))))))
    exact ifp (Eq.refl true) last
  refine Ev.bind hto (Ev.bind e1 (Ev.bind hto (Ev.bind e2 (Ev.bind q (ifp (Eq.refl true) ?_)))))
  refine Ev.step (fun k => by simp only [laws_FnExactExactGain.j0]; exact rfl) (ifn (by simp) (Ev.bind hto (Ev.bind (eqStageS_ev (l.map cv) (by omega)) (ifp (Eq.refl true) (Ev.bind m1 (ifn hneg2 (Ev.bind q ?_)))))))
  exact ifp (Eq.refl true) mid
end Go.Proofs.Ytbjilpmnhghfhaa.fnExactExactGain
