/- The statement over numbers and lists that is left of the law FnExactLeastTilt. No conditions. -/
import Derived.Test.YtkedfmmmjopofaaXLtx7
namespace Go.Proofs.Ytkedfmmmjopofaa.fnExactLeastTilt
open Go.RowKit Go.Proofs.Ytkedfmmmjopofaa.XLt Go.Proofs.YtkedfmmmjopofaaW.PrintWords Go.Proofs.YtkedfmmmjopofaaW.PrintLast
/-- A whole number of the kind int. -/
def I64 (x : Int) : Prop := -9223372036854775808 ≤ x ∧ x ≤ 9223372036854775807
/-- What is to be shown of the law's plain function. -/
def Pure : Prop := ∀ (l0 : List Int) (l1 : List Int), l0.length * 8 ≤ 140737488351232 → (∀ x ∈ l0, I64 x) → l1.length * 8 ≤ 140737488351232 → (∀ x ∈ l1, I64 x) → ∃ k, laws_FnExactLeastTilt.f k l0 l1 = some true
end Go.Proofs.Ytkedfmmmjopofaa.fnExactLeastTilt
