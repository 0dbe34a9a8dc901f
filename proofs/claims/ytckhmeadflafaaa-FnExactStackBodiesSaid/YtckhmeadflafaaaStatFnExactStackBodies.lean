/- The statement over numbers and lists that is left of the law FnExactStackBodies. No conditions. -/
import Derived.Test.YtckhmeadflafaaaXSkx21
namespace Go.Proofs.Ytckhmeadflafaaa.fnExactStackBodies
open Go.RowKit Go.Proofs.Ytckhmeadflafaaa.XSk Go.Proofs.YtckhmeadflafaaaW.PrintWords Go.Proofs.YtckhmeadflafaaaW.PrintLast
/-- A whole number of the kind int. -/
def I64 (x : Int) : Prop := -9223372036854775808 ≤ x ∧ x ≤ 9223372036854775807
/-- What is to be shown of the law's plain function. -/
def Pure : Prop := ∀ (l0 : List S49) (l1 : List S49) (a2 : Int), l0.length * 16 ≤ 140737488351232 → (∀ x ∈ l0, I64 x.f0 ∧ I64 x.f1) → l1.length * 16 ≤ 140737488351232 → (∀ x ∈ l1, I64 x.f0 ∧ I64 x.f1) → I64 a2 → ∃ k, laws_FnExactStackBodies.f k l0 l1 a2 = some true
end Go.Proofs.Ytckhmeadflafaaa.fnExactStackBodies
