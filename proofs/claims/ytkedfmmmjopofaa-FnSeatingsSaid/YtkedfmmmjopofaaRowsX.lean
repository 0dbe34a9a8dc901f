/- The row of weights at places, told. No conditions beyond those of the lemmas' own hypotheses. -/
import Derived.Test.YtkedfmmmjopofaaPlain
import Derived.Test.YtkedfmmmjopofaaXSex15
import Derived.Test.YtkedfmmmjopofaaXSex13
namespace Go.Proofs.Ytkedfmmmjopofaa.PureRowsX
open Go.RowKit Go.Proofs.Ytkedfmmmjopofaa.XSe Go.Proofs.Ytkedfmmmjopofaa.Plain Go.Proofs.YtkedfmmmjopofaaW.PrintWords Go.Proofs.YtkedfmmmjopofaaW.PrintLast Go.Proofs.YtkedfmmmjopofaaW.PrintMore
set_option linter.unusedVariables false
abbrev Ld := S73
/-- The row of weights at places. -/
def rows (ws ps : List Int) : List Ld := List.zipWith (fun w p => (⟨p, w⟩ : Ld)) ws ps
theorem rows_len {ws ps : List Int} (h : ps.length = ws.length) : (rows ws ps).length = ws.length := by unfold rows; rw [List.length_zipWith]; omega
theorem rows_at {ws ps : List Int} {i : Nat} (h1 : i < ws.length) (h2 : i < ps.length) (h3 : i < (rows ws ps).length) : (rows ws ps)[i] = ⟨ps[i], ws[i]⟩ := List.getElem_zipWith ..
theorem row_l0 (ws ps : List Int) (hn : ws.length ≤ 1048576) (hp : ps.length = ws.length) : ∀ i, i ≤ ws.length → ∀ xs : List Ld, xs.length = i → Ev (fun k => spec_l9Row.l0 k ws ps xs (i : Int)) (xs ++ (rows ws ps).drop i) ∧ Ev (fun k => impl_rowOf.l0 k ps xs ws (ws.length : Int) (i : Int)) (xs ++ (rows ws ps).drop i) := by
  have hl := rows_len hp
  refine downTo ws.length ?_ ?_
  · intro xs hx
    have e : xs = xs ++ (rows ws ps).drop ws.length := by rw [← hl, List.drop_length, List.append_nil]
    exact ⟨Ev.step (fun k => by simp only [spec_l9Row.l0]; exact rfl) (ifn (by omega) (done e)), Ev.step (fun k => by simp only [impl_rowOf.l0]; exact rfl) (ifn (by omega) (done e))⟩
  · intro i hi ih xs hx
    have hi0 : 0 ≤ (i : Int) := by omega
    have hil : (i : Int) < (ws.length : Int) := by omega
    have hip : (i : Int) < (ps.length : Int) := by omega
    have hip2 : i < ps.length := by omega
    have hir : i < (rows ws ps).length := by omega
    have hxl : xs.length < 8796093022208 := by omega
    obtain ⟨e1, e2⟩ := ih (xs ++ [⟨rd ps (i : Int), rd ws (i : Int)⟩]) (by simp [hx])
    have e : xs ++ (rows ws ps).drop i = xs ++ [(⟨rd ps (i : Int), rd ws (i : Int)⟩ : Ld)] ++ (rows ws ps).drop (i + 1) := by
      rw [drop_cons hir, rows_at hi hip2 hir, rd_lt hi, rd_lt hip2, List.append_assoc]; rfl
    rw [e]
    rw [← wrapS hi (by omega)] at e1 e2
    exact ⟨Ev.step (fun k => by simp only [spec_l9Row.l0]; exact rfl) (ifp hil (ifp hi0 (ifp hip (ifp hxl e1)))), Ev.step (fun k => by simp only [impl_rowOf.l0]; exact rfl) (ifp hil (ifp hi0 (ifp hil (ifp hip (ifp hxl e2)))))⟩
theorem row_ev (ws ps : List Int) (hn : ws.length ≤ 1048576) (hp : ps.length = ws.length) : Ev (fun k => spec_l9Row.f k ws ps) (rows ws ps) ∧ Ev (fun k => impl_rowOf.f k ws ps) (rows ws ps) := row_l0 ws ps hn hp 0 (Nat.zero_le _) [] rfl
end Go.Proofs.Ytkedfmmmjopofaa.PureRowsX
