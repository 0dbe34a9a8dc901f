/- The plain law of FnExactFirstEven. No conditions. -/
import Derived.Test.YtkedfmmmjopofaaStatFnExactFirstEven
import Derived.Test.YtkedfmmmjopofaaEvensFirst
import Derived.Test.YtkedfmmmjopofaaInts
import Derived.Test.YtkedfmmmjopofaaHeldInts
namespace Go.Proofs.Ytkedfmmmjopofaa.fnExactFirstEven
open Go.RowKit Go.Proofs.Ytkedfmmmjopofaa.XEv Go.Proofs.Ytkedfmmmjopofaa.Plain Go.Proofs.Ytkedfmmmjopofaa.PureEvensFirst Go.Proofs.Ytkedfmmmjopofaa.PureInts Go.Proofs.Ytkedfmmmjopofaa.PureMarkInts Go.Proofs.Ytkedfmmmjopofaa.PureHeldInts Go.Proofs.YtkedfmmmjopofaaW.PrintWords Go.Proofs.YtkedfmmmjopofaaW.PrintLast Go.Proofs.YtkedfmmmjopofaaW.PrintMore
set_option linter.unusedVariables false
theorem pure : Pure := by
  intro l a hl _ _
  refine Ev.rounds ?_
  unfold laws_FnExactFirstEven.f
  refine ifc (fun _ => done rfl) fun hn => ?_
  have t1 := toIntS_ev l (by omega)
  obtain ⟨e1, e2⟩ := both l (by omega) a
  have hr := res_len l a
  obtain ⟨r, hrr⟩ : ∃ r, Res l a = r := ⟨_, rfl⟩
  rw [hrr] at e1 e2 hr
  have q := eqIntS_ev r.1 (by omega)
  obtain ⟨R1, m1, _, _⟩ := markIntS_ev l (by omega) 1 (by omega) (by omega)
  obtain ⟨R3, m3, m3l, m3r⟩ := markIntS_ev r.1 (by omega) 1 (by omega) (by omega)
  have h3 := heldIntS_ev R3 r.1.length m3l (by omega) 1 (by omega) (by omega) m3r
  have hneg : ¬ (1 + (r.1.length : Int)) < 0 := by omega
  have hneg2 : ¬ (1 + (l.length : Int)) < 0 := by omega
  refine Ev.bind t1 (Ev.bind e1 (Ev.bind t1 (Ev.bind e2 (Ev.bind q (ifp (Eq.refl true) (ifn (by simp) ?_))))))
  refine Ev.bind t1 (Ev.bind (eqIntS_ev l (by omega)) (ifp (Eq.refl true) (Ev.bind m1 (ifn hneg2 (Ev.bind q (ifp (Eq.refl true) ?_))))))
  refine Ev.bind m3 (Ev.bind h3 (ifn hneg (ifp rfl (Ev.bind t1 (Ev.bind e2 (Ev.bind q (ifp (Eq.refl true) (ifn (by simp) ?_))))))))
  refine Ev.bind h3 (ifn hneg ?_)
  exact ifp rfl (done rfl)
end Go.Proofs.Ytkedfmmmjopofaa.fnExactFirstEven
