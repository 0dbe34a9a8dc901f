/- The plain law of FnExactCountEven. No conditions. -/
import Derived.Test.YtkedfmmmjopofaaStatFnExactCountEven
import Derived.Test.YtkedfmmmjopofaaEvensCount
import Derived.Test.YtkedfmmmjopofaaInts
namespace Go.Proofs.Ytkedfmmmjopofaa.fnExactCountEven
open Go.RowKit Go.Proofs.Ytkedfmmmjopofaa.XCe Go.Proofs.Ytkedfmmmjopofaa.Plain Go.Proofs.Ytkedfmmmjopofaa.PureEvensCount Go.Proofs.Ytkedfmmmjopofaa.PureInts Go.Proofs.YtkedfmmmjopofaaW.PrintWords Go.Proofs.YtkedfmmmjopofaaW.PrintLast Go.Proofs.YtkedfmmmjopofaaW.PrintMore
set_option linter.unusedVariables false
theorem pure : Pure := by
  intro l a hl _ _
  refine Ev.rounds ?_
  unfold laws_FnExactCountEven.f
  refine ifc (fun _ => done rfl) fun hn => ?_
  have t1 := toIntS_ev l (by omega)
  obtain ⟨e1, e2⟩ := both l (by omega) a
  refine Ev.bind t1 (Ev.bind e1 (Ev.bind t1 (Ev.bind e2 (ifp rfl (ifn (by simp) ?_)))))
  refine Ev.bind t1 (Ev.bind (eqIntS_ev l (by omega)) ?_)
  exact ifp (Eq.refl true) (done rfl)
end Go.Proofs.Ytkedfmmmjopofaa.fnExactCountEven
