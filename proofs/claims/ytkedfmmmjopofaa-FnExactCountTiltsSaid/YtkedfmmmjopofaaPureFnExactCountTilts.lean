/- The plain law of FnExactCountTilts. No conditions. -/
import Derived.Test.YtkedfmmmjopofaaStatFnExactCountTilts
import Derived.Test.YtkedfmmmjopofaaCountTilts
import Derived.Test.YtkedfmmmjopofaaInts
namespace Go.Proofs.Ytkedfmmmjopofaa.fnExactCountTilts
open Go.RowKit Go.Proofs.Ytkedfmmmjopofaa.XCt Go.Proofs.Ytkedfmmmjopofaa.Plain Go.Proofs.Ytkedfmmmjopofaa.PureCountTilts Go.Proofs.Ytkedfmmmjopofaa.PureInts Go.Proofs.YtkedfmmmjopofaaW.PrintWords Go.Proofs.YtkedfmmmjopofaaW.PrintLast Go.Proofs.YtkedfmmmjopofaaW.PrintMore
set_option linter.unusedVariables false
theorem pure : Pure := by
  intro l m a hl _ hm _ _
  refine Ev.rounds ?_
  unfold laws_FnExactCountTilts.f
  refine ifc (fun _ => done rfl) fun hn => ifc (fun _ => done rfl) fun hn2 => ?_
  have t1 := toIntS_ev l (by omega)
  have t2 := toIntS_ev m (by omega)
  obtain ⟨e1, e2⟩ := both l (by omega) m (by omega) a
  refine Ev.bind t1 (Ev.bind t2 (Ev.bind e1 (Ev.bind t1 (Ev.bind t2 (Ev.bind e2 (ifp rfl (ifn (by simp) ?_)))))))
  refine Ev.bind t1 (Ev.bind (eqIntS_ev l (by omega)) (ifp (Eq.refl true) (Ev.bind t2 (Ev.bind (eqIntS_ev m (by omega)) ?_))))
  exact ifp (Eq.refl true) (done rfl)
end Go.Proofs.Ytkedfmmmjopofaa.fnExactCountTilts
