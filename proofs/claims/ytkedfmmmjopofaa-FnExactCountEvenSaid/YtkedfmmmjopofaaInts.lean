/- Copies of lists of whole numbers that a law makes. No conditions beyond those of the lemmas' own hypotheses. -/
import Derived.Test.YtkedfmmmjopofaaPlain
import Derived.Test.YtkedfmmmjopofaaXCex1
import Derived.Test.YtkedfmmmjopofaaXCex7
namespace Go.Proofs.Ytkedfmmmjopofaa.PureInts
open Go.RowKit Go.Proofs.Ytkedfmmmjopofaa.XCe Go.Proofs.Ytkedfmmmjopofaa.Plain Go.Proofs.YtkedfmmmjopofaaW.PrintWords Go.Proofs.YtkedfmmmjopofaaW.PrintLast Go.Proofs.YtkedfmmmjopofaaW.PrintMore
set_option linter.unusedVariables false
theorem toIntS_l0 (l : List Int) (hn : l.length ≤ 35184372088832) : ∀ i, i ≤ l.length → ∀ xs : List Int, xs.length = l.length → xs.take i = l.take i → Ev (fun k => laws_toIntS.l0 k l xs (i : Int)) l := by
  refine downTo l.length ?_ ?_
  · intro xs hl hx
    refine Ev.step (fun k => by simp only [laws_toIntS.l0]; exact rfl) (ifn (by omega) (done ?_))
    rw [← hl, List.take_length] at hx
    rw [hx, hl, List.take_length]
  · intro i hi ih xs hl hx
    refine Ev.step (fun k => by simp only [laws_toIntS.l0]; exact rfl) (ifp (by omega) (ifp (by omega) (ifp (by omega) ?_)))
    rw [rd_lt hi, wrapS hi (by omega), Int.toNat_natCast]
    refine ih _ (by rw [List.length_set]; exact hl) ?_
    rw [take_set_succ _ (by omega), hx, take_succ hi]
theorem toIntS_ev (l : List Int) (hn : l.length ≤ 35184372088832) : Ev (fun k => laws_toIntS.f k l) l := by
  unfold laws_toIntS.f
  refine ifp (by omega) (ifp (by omega) ?_)
  exact toIntS_l0 l hn 0 (Nat.zero_le _) _ (by simp) (by simp)
theorem eqIntS_l0 (l : List Int) (hn : l.length ≤ 140737488355328) : ∀ i, i ≤ l.length → Ev (fun k => laws_eqIntS.l0 k l l (i : Int)) true := by
  refine downTo l.length ?_ ?_
  · exact Ev.step (fun k => by simp only [laws_eqIntS.l0]; exact rfl) (ifn (by omega) (done rfl))
  · intro i hi ih
    refine Ev.step (fun k => by simp only [laws_eqIntS.l0]; exact rfl) (ifp (by omega) (ifp (by omega) (ifp (by omega) (ifp (Eq.refl (rd l (i : Int))) ?_))))
    rw [wrapS hi hn]; exact ih
theorem eqIntS_ev (l : List Int) (hn : l.length ≤ 140737488355328) : Ev (fun k => laws_eqIntS.f k l l) true := by
  unfold laws_eqIntS.f
  exact ifp rfl (eqIntS_l0 l hn 0 (Nat.zero_le _))
end Go.Proofs.Ytkedfmmmjopofaa.PureInts
