/- The statement over numbers and lists that is left of the law FnExactIsSafeOrder. No conditions. -/
import Derived.Test.YtkpdddlecibbnaaXAllx24
namespace Go.Proofs.Ytkpdddlecibbnaa.fnExactIsSafeOrder
open Go.RowKit Go.Proofs.Ytkpdddlecibbnaa.XAll Go.Proofs.YtkpdddlecibbnaaW.PrintWords Go.Proofs.YtkpdddlecibbnaaW.PrintLast
/-- A whole number of the kind int. -/
def I64 (x : Int) : Prop := -9223372036854775808 ≤ x ∧ x ≤ 9223372036854775807
/-- What is to be shown of the law's plain function. -/
def Pure : Prop := ∀ (a0_0 : Int) (a0_1 : Int) (a0_2 : Int) (l1 : List S52) (l2 : List Int), I64 a0_0 → I64 a0_1 → I64 a0_2 → l1.length * 16 ≤ 140737488351232 → (∀ x ∈ l1, I64 x.f0 ∧ I64 x.f1) → l2.length * 8 ≤ 140737488351232 → (∀ x ∈ l2, I64 x) → ∃ k, laws_FnExactIsSafeOrder.f k a0_0 a0_1 a0_2 l1 l2 = some true
end Go.Proofs.Ytkpdddlecibbnaa.fnExactIsSafeOrder
