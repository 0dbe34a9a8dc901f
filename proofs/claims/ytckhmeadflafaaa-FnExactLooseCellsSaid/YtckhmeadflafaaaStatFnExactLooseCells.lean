/- The statement over numbers and lists that is left of the law FnExactLooseCells. No conditions. -/
import Derived.Test.YtckhmeadflafaaaXLox18
namespace Go.Proofs.Ytckhmeadflafaaa.fnExactLooseCells
open Go.RowKit Go.Proofs.Ytckhmeadflafaaa.XLo Go.Proofs.YtckhmeadflafaaaW.PrintWords Go.Proofs.YtckhmeadflafaaaW.PrintLast
/-- A whole number of the kind int. -/
def I64 (x : Int) : Prop := -9223372036854775808 ≤ x ∧ x ≤ 9223372036854775807
/-- What is to be shown of the law's plain function. -/
def Pure : Prop := ∀ (l0 : List S49), l0.length * 16 ≤ 140737488351232 → (∀ x ∈ l0, I64 x.f0 ∧ I64 x.f1) → ∃ k, laws_FnExactLooseCells.f k l0 = some true
end Go.Proofs.Ytckhmeadflafaaa.fnExactLooseCells
