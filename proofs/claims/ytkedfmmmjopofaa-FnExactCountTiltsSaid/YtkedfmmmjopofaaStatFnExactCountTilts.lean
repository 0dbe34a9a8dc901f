/- The statement over numbers and lists that is left of the law FnExactCountTilts. No conditions. -/
import Derived.Test.YtkedfmmmjopofaaXCtx7
namespace Go.Proofs.Ytkedfmmmjopofaa.fnExactCountTilts
open Go.RowKit Go.Proofs.Ytkedfmmmjopofaa.XCt Go.Proofs.YtkedfmmmjopofaaW.PrintWords Go.Proofs.YtkedfmmmjopofaaW.PrintLast
/-- A whole number of the kind int. -/
def I64 (x : Int) : Prop := -9223372036854775808 ≤ x ∧ x ≤ 9223372036854775807
/-- What is to be shown of the law's plain function. -/
def Pure : Prop := ∀ (l0 : List Int) (l1 : List Int) (a2 : Int), l0.length * 8 ≤ 140737488351232 → (∀ x ∈ l0, I64 x) → l1.length * 8 ≤ 140737488351232 → (∀ x ∈ l1, I64 x) → I64 a2 → ∃ k, laws_FnExactCountTilts.f k l0 l1 a2 = some true
end Go.Proofs.Ytkedfmmmjopofaa.fnExactCountTilts
