/- The statement over numbers and lists that is left of the law FnExactCellsToStand. No conditions. -/
import Derived.Test.YtckhmeadflafaaaXCsx24
namespace Go.Proofs.Ytckhmeadflafaaa.fnExactCellsToStand
open Go.RowKit Go.Proofs.Ytckhmeadflafaaa.XCs Go.Proofs.YtckhmeadflafaaaW.PrintWords Go.Proofs.YtckhmeadflafaaaW.PrintLast
/-- A whole number of the kind int. -/
def I64 (x : Int) : Prop := -9223372036854775808 ≤ x ∧ x ≤ 9223372036854775807
/-- What is to be shown of the law's plain function. -/
def Pure : Prop := ∀ (l0 : List S49), l0.length * 16 ≤ 140737488351232 → (∀ x ∈ l0, I64 x.f0 ∧ I64 x.f1) → ∃ k, laws_FnExactCellsToStand.f k l0 = some true
end Go.Proofs.Ytckhmeadflafaaa.fnExactCellsToStand
