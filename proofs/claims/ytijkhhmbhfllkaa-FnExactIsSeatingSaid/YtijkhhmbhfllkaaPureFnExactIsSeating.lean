/- The plain law of FnExactIsSeating. No conditions. -/
import Derived.Test.YtijkhhmbhfllkaaStatFnExactIsSeating
import Derived.Test.YtijkhhmbhfllkaaSeats
import Derived.Test.YtijkhhmbhfllkaaInts
namespace Go.Proofs.Ytijkhhmbhfllkaa.fnExactIsSeating
open Go.RowKit Go.Proofs.Ytijkhhmbhfllkaa.XAll Go.Proofs.Ytijkhhmbhfllkaa.Plain Go.Proofs.Ytijkhhmbhfllkaa.PureSeats Go.Proofs.Ytijkhhmbhfllkaa.PureInts Go.Proofs.YtijkhhmbhfllkaaW.PrintWords Go.Proofs.YtijkhhmbhfllkaaW.PrintLast Go.Proofs.YtijkhhmbhfllkaaW.PrintMore
set_option linter.unusedVariables false
theorem pure : Pure := by
  intro l a m hl _ _ hm _
  refine Ev.rounds ?_
  unfold laws_FnExactIsSeating.f
  refine ifc (fun _ => done rfl) fun hn => ifc (fun _ => done rfl) fun hn2 => ?_
  have t1 := toIntS_ev l (by omega)
  have t2 := toIntS_ev m (by omega)
  obtain ⟨r, e1, e2⟩ := isSeating_ev l (by omega) a m (by omega)
  refine Ev.bind t1 (Ev.bind t2 (Ev.bind e1 (Ev.bind t1 (Ev.bind t2 (Ev.bind e2 (ifn (by simp) ?_))))))
  refine Ev.step (fun k => by simp only [laws_FnExactIsSeating.j0]; exact rfl) (ifn (by simp) (Ev.bind t1 (Ev.bind (eqIntS_ev l (by omega)) (ifp (Eq.refl true) (Ev.bind t2 (Ev.bind (eqIntS_ev m (by omega)) ?_))))))
  exact ifp (Eq.refl true) (done rfl)
end Go.Proofs.Ytijkhhmbhfllkaa.fnExactIsSeating
