/- The statement over numbers and lists that is left of the law FnExactCountEven. No conditions. -/
import Derived.Test.YtkedfmmmjopofaaXCex7
namespace Go.Proofs.Ytkedfmmmjopofaa.fnExactCountEven
open Go.RowKit Go.Proofs.Ytkedfmmmjopofaa.XCe Go.Proofs.YtkedfmmmjopofaaW.PrintWords Go.Proofs.YtkedfmmmjopofaaW.PrintLast
/-- A whole number of the kind int. -/
def I64 (x : Int) : Prop := -9223372036854775808 ≤ x ∧ x ≤ 9223372036854775807
/-- What is to be shown of the law's plain function. -/
def Pure : Prop := ∀ (l0 : List Int) (a1 : Int), l0.length * 8 ≤ 140737488351232 → (∀ x ∈ l0, I64 x) → I64 a1 → ∃ k, laws_FnExactCountEven.f k l0 a1 = some true
end Go.Proofs.Ytkedfmmmjopofaa.fnExactCountEven
