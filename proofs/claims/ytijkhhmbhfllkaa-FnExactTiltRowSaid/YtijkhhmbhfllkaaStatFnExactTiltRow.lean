/- The statement over numbers and lists that is left of the law FnExactTiltRow. No conditions. -/
import Derived.Test.YtijkhhmbhfllkaaXAllx17
namespace Go.Proofs.Ytijkhhmbhfllkaa.fnExactTiltRow
open Go.RowKit Go.Proofs.Ytijkhhmbhfllkaa.XAll Go.Proofs.YtijkhhmbhfllkaaW.PrintWords Go.Proofs.YtijkhhmbhfllkaaW.PrintLast
/-- A whole number of the kind int. -/
def I64 (x : Int) : Prop := -9223372036854775808 ≤ x ∧ x ≤ 9223372036854775807
/-- What is to be shown of the law's plain function. -/
def Pure : Prop := ∀ (l0 : List Int) (l1 : List Int) (l2 : List Int), l0.length * 8 ≤ 140737488351232 → (∀ x ∈ l0, I64 x) → l1.length * 8 ≤ 140737488351232 → (∀ x ∈ l1, I64 x) → l2.length * 8 ≤ 140737488351232 → (∀ x ∈ l2, I64 x) → ∃ k, laws_FnExactTiltRow.f k l0 l1 l2 = some true
end Go.Proofs.Ytijkhhmbhfllkaa.fnExactTiltRow
