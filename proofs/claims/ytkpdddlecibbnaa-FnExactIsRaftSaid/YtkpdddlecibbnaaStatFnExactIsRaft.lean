/- The statement over numbers and lists that is left of the law FnExactIsRaft. No conditions. -/
import Derived.Test.YtkpdddlecibbnaaXAllx1
namespace Go.Proofs.Ytkpdddlecibbnaa.fnExactIsRaft
open Go.RowKit Go.Proofs.Ytkpdddlecibbnaa.XAll Go.Proofs.YtkpdddlecibbnaaW.PrintWords Go.Proofs.YtkpdddlecibbnaaW.PrintLast
/-- A whole number of the kind int. -/
def I64 (x : Int) : Prop := -9223372036854775808 ≤ x ∧ x ≤ 9223372036854775807
/-- What is to be shown of the law's plain function. -/
def Pure : Prop := ∀ (a0_0 : Int) (a0_1 : Int) (a0_2 : Int), I64 a0_0 → I64 a0_1 → I64 a0_2 → laws_FnExactIsRaft.f a0_0 a0_1 a0_2 = some true
end Go.Proofs.Ytkpdddlecibbnaa.fnExactIsRaft
