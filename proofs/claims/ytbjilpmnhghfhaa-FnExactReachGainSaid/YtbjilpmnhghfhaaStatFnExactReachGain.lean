/- The statement over numbers and lists that is left of the law FnExactReachGain. No conditions. -/
import Derived.Test.YtbjilpmnhghfhaaXGax21
namespace Go.Proofs.Ytbjilpmnhghfhaa.fnExactReachGain
open Go.RowKit Go.Proofs.Ytbjilpmnhghfhaa.XGa Go.Proofs.YtbjilpmnhghfhaaW.PrintWords Go.Proofs.YtbjilpmnhghfhaaW.PrintLast
/-- A whole number of the kind int. -/
def I64 (x : Int) : Prop := -9223372036854775808 ≤ x ∧ x ≤ 9223372036854775807
/-- What is to be shown of the law's plain function. -/
def Pure : Prop := ∀ (l0 : List S66) (a1 : Int), l0.length * 24 ≤ 140737488351232 → (∀ x ∈ l0, I64 x.f0 ∧ I64 x.f1 ∧ I64 x.f2) → I64 a1 → ∃ k, laws_FnExactReachGain.f k l0 a1 = some true
end Go.Proofs.Ytbjilpmnhghfhaa.fnExactReachGain
