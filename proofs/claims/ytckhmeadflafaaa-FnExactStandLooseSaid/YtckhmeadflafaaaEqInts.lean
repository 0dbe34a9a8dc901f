/- Lists of whole numbers that a law compares. No conditions beyond those of the lemmas' own hypotheses. -/
import Derived.Test.YtckhmeadflafaaaPlain
import Derived.Test.YtckhmeadflafaaaXSlx17
namespace Go.Proofs.Ytckhmeadflafaaa.PureEqInts
open Go.RowKit Go.Proofs.Ytckhmeadflafaaa.XSl Go.Proofs.Ytckhmeadflafaaa.Plain Go.Proofs.YtckhmeadflafaaaW.PrintWords Go.Proofs.YtckhmeadflafaaaW.PrintLast Go.Proofs.YtckhmeadflafaaaW.PrintMore
set_option linter.unusedVariables false
theorem eqIntS_l0 (l : List Int) (hn : l.length ≤ 140737488355328) : ∀ i, i ≤ l.length → Ev (fun k => laws_eqIntS.l0 k l l (i : Int)) true := by
  refine downTo l.length ?_ ?_
  · exact Ev.step (fun k => by simp only [laws_eqIntS.l0]; exact rfl) (ifn (by omega) (done rfl))
  · intro i hi ih
    refine Ev.step (fun k => by simp only [laws_eqIntS.l0]; exact rfl) (ifp (by omega) (ifp (by omega) (ifp (by omega) (ifp (Eq.refl (rd l (i : Int))) ?_))))
    rw [wrapS hi hn]; exact ih
theorem eqIntS_ev (l : List Int) (hn : l.length ≤ 140737488355328) : Ev (fun k => laws_eqIntS.f k l l) true := by
  unfold laws_eqIntS.f
  exact ifp rfl (eqIntS_l0 l hn 0 (Nat.zero_le _))
end Go.Proofs.Ytckhmeadflafaaa.PureEqInts
