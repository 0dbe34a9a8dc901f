/- Chains that a law marks. No conditions beyond those of the lemmas' own hypotheses. -/
import Derived.Test.YtbjilpmnhghfhaaStage
import Derived.Test.YtbjilpmnhghfhaaXGax16
namespace Go.Proofs.Ytbjilpmnhghfhaa.PureMarkStages
open Go.RowKit Go.Proofs.Ytbjilpmnhghfhaa.XGa Go.Proofs.Ytbjilpmnhghfhaa.Plain Go.Proofs.Ytbjilpmnhghfhaa.PureStage Go.Proofs.YtbjilpmnhghfhaaW.PrintWords Go.Proofs.YtbjilpmnhghfhaaW.PrintLast Go.Proofs.YtbjilpmnhghfhaaW.PrintMore
set_option linter.unusedVariables false
theorem markStageS_l0 (n : Nat) (hn : n ≤ 1048576) : ∀ i, i ≤ n → ∀ (xs : List St) (c : Int), xs.length = n → 0 ≤ c → c + ((3 * (n - i) : Nat) : Int) ≤ 4611686018427387904 → ∃ R : List St, Ev (fun k => laws_markStageS.l0 k xs c (i : Int)) (c + ((3 * (n - i) : Nat) : Int), R) := by
  refine downTo n ?_ ?_
  · intro xs c hl h0 h1
    refine ⟨xs, Ev.step (fun k => by simp only [laws_markStageS.l0]; exact rfl) (ifn (by omega) (done ?_))⟩
    simp
  · intro i hi ih xs c hl h0 h1
    have e1 : wrap64 (c + 1) = c + 1 := w64 (by omega) (by omega)
    have e2 : wrap64 (c + 1 + 1) = c + 2 := by rw [w64 (by omega) (by omega)]; omega
    have e3 : wrap64 (c + 2 + 1) = c + 3 := by rw [w64 (by omega) (by omega)]; omega
    have key : ∀ ys : List St, ys.length = n → ∃ R : List St, Ev (fun k => laws_markStageS.l0 k ys (c + 3) ((i + 1 : Nat) : Int)) (c + ((3 * (n - i) : Nat) : Int), R) := by
      intro ys hy
      obtain ⟨R, hR⟩ := ih ys (c + 3) hy (by omega) (by omega)
      rw [show c + 3 + ((3 * (n - (i + 1)) : Nat) : Int) = c + ((3 * (n - i) : Nat) : Int) from by omega] at hR
      exact ⟨R, hR⟩
    obtain ⟨R, hR⟩ := key ((((xs.set i ⟨c, (rd_T37 xs (i : Int)).f1, (rd_T37 xs (i : Int)).f2⟩).set i ⟨(rd_T37 (xs.set i ⟨c, (rd_T37 xs (i : Int)).f1, (rd_T37 xs (i : Int)).f2⟩) (i : Int)).f0, c + 1, (rd_T37 (xs.set i ⟨c, (rd_T37 xs (i : Int)).f1, (rd_T37 xs (i : Int)).f2⟩) (i : Int)).f2⟩)).set i ⟨(rd_T37 ((xs.set i ⟨c, (rd_T37 xs (i : Int)).f1, (rd_T37 xs (i : Int)).f2⟩).set i ⟨(rd_T37 (xs.set i ⟨c, (rd_T37 xs (i : Int)).f1, (rd_T37 xs (i : Int)).f2⟩) (i : Int)).f0, c + 1, (rd_T37 (xs.set i ⟨c, (rd_T37 xs (i : Int)).f1, (rd_T37 xs (i : Int)).f2⟩) (i : Int)).f2⟩) (i : Int)).f0, (rd_T37 ((xs.set i ⟨c, (rd_T37 xs (i : Int)).f1, (rd_T37 xs (i : Int)).f2⟩).set i ⟨(rd_T37 (xs.set i ⟨c, (rd_T37 xs (i : Int)).f1, (rd_T37 xs (i : Int)).f2⟩) (i : Int)).f0, c + 1, (rd_T37 (xs.set i ⟨c, (rd_T37 xs (i : Int)).f1, (rd_T37 xs (i : Int)).f2⟩) (i : Int)).f2⟩) (i : Int)).f1, c + 2⟩) (by simp [hl])
    refine ⟨R, ?_⟩
    refine Ev.step (fun k => by simp only [laws_markStageS.l0]; exact rfl) ?_
    refine ifp (by omega) (ifp (by omega) ?_)
    simp only [Option.bind_some]
    rw [e1, e2, e3, wrapS hi (by omega), Int.toNat_natCast]
    exact hR
theorem markStageS_ev (l : List St) (hn : l.length ≤ 1048576) (c : Int) (h0 : 0 ≤ c) (h1 : c + ((3 * l.length : Nat) : Int) ≤ 4611686018427387904) : ∃ R : List St, Ev (fun k => laws_markStageS.f k l c) (c + ((3 * l.length : Nat) : Int), R) := by
  obtain ⟨R, hR⟩ := markStageS_l0 l.length hn 0 (Nat.zero_le _) l c rfl h0 (by simpa using h1)
  exact ⟨R, by unfold laws_markStageS.f; simpa using hR⟩
end Go.Proofs.Ytbjilpmnhghfhaa.PureMarkStages
