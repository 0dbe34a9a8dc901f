/- The statement over numbers and lists that is left of the law FnExactOneMove. No conditions. -/
import Derived.Test.YtiehcdophdbjbaaXAllx7
namespace Go.Proofs.Ytiehcdophdbjbaa.fnExactOneMove
open Go.RowKit Go.Proofs.Ytiehcdophdbjbaa.XAll Go.Proofs.YtiehcdophdbjbaaW.PrintWords Go.Proofs.YtiehcdophdbjbaaW.PrintLast
/-- A whole number of the kind int. -/
def I64 (x : Int) : Prop := -9223372036854775808 ≤ x ∧ x ≤ 9223372036854775807
/-- What is to be shown of the law's plain function. -/
def Pure : Prop := ∀ (l0 : List S49) (a1 : Int), l0.length * 16 ≤ 140737488351232 → (∀ x ∈ l0, I64 x.f0 ∧ I64 x.f1) → I64 a1 → ∃ k, laws_FnExactOneMove.f k l0 a1 = some true
end Go.Proofs.Ytiehcdophdbjbaa.fnExactOneMove
