/- The statement over numbers and lists that is left of the law FnExactStandLoose. No conditions. -/
import Derived.Test.YtckhmeadflafaaaXSlx20
namespace Go.Proofs.Ytckhmeadflafaaa.fnExactStandLoose
open Go.RowKit Go.Proofs.Ytckhmeadflafaaa.XSl Go.Proofs.YtckhmeadflafaaaW.PrintWords Go.Proofs.YtckhmeadflafaaaW.PrintLast
/-- A whole number of the kind int. -/
def I64 (x : Int) : Prop := -9223372036854775808 ≤ x ∧ x ≤ 9223372036854775807
/-- What is to be shown of the law's plain function. -/
def Pure : Prop := ∀ (l0 : List S49), l0.length * 16 ≤ 140737488351232 → (∀ x ∈ l0, I64 x.f0 ∧ I64 x.f1) → ∃ k, laws_FnExactStandLoose.f k l0 = some true
end Go.Proofs.Ytckhmeadflafaaa.fnExactStandLoose
