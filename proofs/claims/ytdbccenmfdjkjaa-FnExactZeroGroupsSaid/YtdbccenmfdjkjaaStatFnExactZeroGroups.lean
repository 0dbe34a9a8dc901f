/- The statement over numbers and lists that is left of the law FnExactZeroGroups. No conditions. -/
import Derived.Test.YtdbccenmfdjkjaaXZgx14
namespace Go.Proofs.Ytdbccenmfdjkjaa.fnExactZeroGroups
open Go.RowKit Go.Proofs.Ytdbccenmfdjkjaa.XZg Go.Proofs.YtdbccenmfdjkjaaW.PrintWords Go.Proofs.YtdbccenmfdjkjaaW.PrintLast
/-- A whole number of the kind int. -/
def I64 (x : Int) : Prop := -9223372036854775808 ≤ x ∧ x ≤ 9223372036854775807
/-- What is to be shown of the law's plain function. -/
def Pure : Prop := ∀ (l0 : List S69) (a1 : Int), l0.length * 16 ≤ 140737488351232 → (∀ x ∈ l0, I64 x.f0 ∧ I64 x.f1) → I64 a1 → ∃ k, laws_FnExactZeroGroups.f k l0 a1 = some true
end Go.Proofs.Ytdbccenmfdjkjaa.fnExactZeroGroups
