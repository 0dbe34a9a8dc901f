/- The row of weights at places, in the program and in the reference alike. No conditions beyond those of the lemmas' own hypotheses. -/
import Derived.Test.YtijkhhmbhfllkaaSeats
import Derived.Test.YtijkhhmbhfllkaaMarkLoads
import Derived.Test.YtijkhhmbhfllkaaXAllx8
import Derived.Test.YtijkhhmbhfllkaaXAllx9
namespace Go.Proofs.Ytijkhhmbhfllkaa.PureSeatRows
open Go.RowKit Go.Proofs.Ytijkhhmbhfllkaa.XAll Go.Proofs.Ytijkhhmbhfllkaa.Plain Go.Proofs.Ytijkhhmbhfllkaa.PureSeats Go.Proofs.Ytijkhhmbhfllkaa.PureMarkLoads Go.Proofs.YtijkhhmbhfllkaaW.PrintWords Go.Proofs.YtijkhhmbhfllkaaW.PrintLast Go.Proofs.YtijkhhmbhfllkaaW.PrintMore
set_option linter.unusedVariables false
theorem row_l0 (ws ps : List Int) (hn : ws.length ≤ 1048576) (hp : ps.length = ws.length) : ∀ i, i ≤ ws.length → ∀ xs : List Ld, xs.length = i → ∃ r : List Ld, Ev (fun k => spec_l9Row.l0 k ws ps xs (i : Int)) r ∧ Ev (fun k => impl_rowOf.l0 k ps xs ws (ws.length : Int) (i : Int)) r ∧ r.length = ws.length := by
  refine downTo ws.length ?_ ?_
  · intro xs hx
    exact ⟨xs, Ev.step (fun k => by simp only [spec_l9Row.l0]; exact rfl) (ifn (by omega) (done rfl)), Ev.step (fun k => by simp only [impl_rowOf.l0]; exact rfl) (ifn (by omega) (done rfl)), hx⟩
  · intro i hi ih xs hx
    have hi0 : 0 ≤ (i : Int) := by omega
    have hil : (i : Int) < (ws.length : Int) := by omega
    have hip : (i : Int) < (ps.length : Int) := by omega
    have hxl : xs.length < 8796093022208 := by omega
    obtain ⟨r, e1, e2, e3⟩ := ih (xs ++ [⟨rd ps (i : Int), rd ws (i : Int)⟩]) (by simp [hx])
    refine ⟨r, Ev.step (fun k => by simp only [spec_l9Row.l0]; exact rfl) (ifp hil (ifp hi0 (ifp hip (ifp hxl ?_)))), Ev.step (fun k => by simp only [impl_rowOf.l0]; exact rfl) (ifp hil (ifp hi0 (ifp hil (ifp hip (ifp hxl ?_))))), e3⟩
    · rw [wrapS hi (by omega)]; exact e1
    · rw [wrapS hi (by omega)]; exact e2
theorem row_ev (ws ps : List Int) (hn : ws.length ≤ 1048576) (hp : ps.length = ws.length) : ∃ r : List Ld, Ev (fun k => spec_l9Row.f k ws ps) r ∧ Ev (fun k => impl_rowOf.f k ws ps) r ∧ r.length = ws.length := row_l0 ws ps hn hp 0 (Nat.zero_le _) [] rfl
end Go.Proofs.Ytijkhhmbhfllkaa.PureSeatRows
