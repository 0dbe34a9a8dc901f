/- The plain law of FnExactCountBodies: the program's count of bodies is the reference's. No conditions. -/
import Derived.Test.YtckhmeadflafaaaCountB
import Derived.Test.YtckhmeadflafaaaXCbx26
namespace Go.Proofs.Ytckhmeadflafaaa.Pure
open Go.RowKit Go.Proofs.Ytckhmeadflafaaa.XCb Go.Proofs.Ytckhmeadflafaaa.Plain Go.Proofs.Ytckhmeadflafaaa.PureCells Go.Proofs.Ytckhmeadflafaaa.PureCountB Go.Proofs.YtckhmeadflafaaaW.PrintWords Go.Proofs.YtckhmeadflafaaaW.PrintLast Go.Proofs.YtckhmeadflafaaaW.PrintMore
set_option linter.unusedVariables false
theorem FnExactCountBodies : laws_FnExactCountBodies.Pure := by
  intro n _
  refine Ev.rounds ?_
  obtain ⟨r, e1, e2⟩ := both n
  unfold laws_FnExactCountBodies.f
  exact Ev.bind e1 (Ev.bind e2 (ifp rfl (ifp rfl (ifn (by simp) (done rfl)))))
end Go.Proofs.Ytckhmeadflafaaa.Pure
