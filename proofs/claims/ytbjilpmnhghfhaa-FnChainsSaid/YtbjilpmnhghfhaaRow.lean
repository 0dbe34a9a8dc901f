/- What the checks of rows come to, and the copies of rows that the law makes, in plain lists. No conditions beyond those of the lemmas' own hypotheses. -/
import Derived.Test.YtbjilpmnhghfhaaPlain
import Derived.Test.YtbjilpmnhghfhaaXChx18
import Derived.Test.YtbjilpmnhghfhaaXChx8
namespace Go.Proofs.Ytbjilpmnhghfhaa.PureRow
open Go.RowKit Go.Proofs.Ytbjilpmnhghfhaa.XCh Go.Proofs.Ytbjilpmnhghfhaa.Plain Go.Proofs.YtbjilpmnhghfhaaW.PrintWords Go.Proofs.YtbjilpmnhghfhaaW.PrintLast Go.Proofs.YtbjilpmnhghfhaaW.PrintMore
set_option linter.unusedVariables false

abbrev Ld := S85
theorem rdL {l : List Ld} {i : Nat} (h : i < l.length) : rd_T85 l (i : Int) = l[i] := by
  unfold rd_T85; rw [Int.toNat_natCast]; exact getD_lt h _

/-! ### numbers within bounds -/
theorem l1In_eq (a b c : Int) : spec_l1In.f a b c = some (decide (b ≤ a ∧ a ≤ c)) := by
  unfold spec_l1In.f
  by_cases h : b ≤ a
  · rw [if_pos h]; simp [h]
  · rw [if_neg h]; simp [h]
theorem within_eq (a b c : Int) : impl_within.f a b c = some (decide (b ≤ a ∧ a ≤ c)) := by
  unfold impl_within.f
  by_cases h : b ≤ a
  · rw [if_pos h]; simp [h]
  · rw [if_neg h]; simp [h]
def Pl (p : Int) : Bool := decide (0 ≤ p ∧ p ≤ 60)
theorem isPlace_eq (p : Int) : impl_isPlace.f p = some (Pl p) := by unfold impl_isPlace.f Pl; rw [within_eq]; rfl
def Wt (p : Int) : Bool := decide (1 ≤ p ∧ p ≤ 99)
theorem isWeight_eq (p : Int) : impl_isWeight.f p = some (Wt p) := by unfold impl_isWeight.f Wt; rw [within_eq]; rfl
def LdOK (x : Ld) : Bool := Pl x.f0 && Wt x.f1
def RowOK (l : List Ld) : Bool := decide (l.length ≤ 12) && l.all LdOK

theorem isRow1_eq (x : Ld) : impl_IsRow_1.f x.f0 x.f1 = some (!LdOK x) := by
  unfold impl_IsRow_1.f LdOK
  rw [isPlace_eq, isWeight_eq]
  cases Pl x.f0 <;> simp
theorem idx_l0 (l : List Ld) (hn : l.length ≤ 140737488355328) : ∀ i, i ≤ l.length → ∃ r : Int, Ev (fun k => slices_IndexFunc_IsRow_1.l0 k l (l.length : Int) (i : Int)) r ∧ decide (r ≥ 0) = !((l.drop i).all LdOK) := by
  refine downTo l.length ?_ ?_
  · refine ⟨-1, Ev.step (fun k => by simp only [slices_IndexFunc_IsRow_1.l0]; exact rfl) (ifn (by omega) (done rfl)), by simp⟩
  · rintro i hi ⟨r, ih, hr⟩
    cases hx : LdOK l[i] with
    | false =>
      refine ⟨(i : Int), Ev.step (fun k => by simp only [slices_IndexFunc_IsRow_1.l0]; exact rfl) (ifp (by omega) (ifp (by omega) (ifp (by omega) ?_))), ?_⟩
      · rw [rdL hi]
        exact somb (isRow1_eq _) (ifp (by rw [hx]; rfl) (done rfl))
      · rw [drop_cons hi, List.all_cons, hx]; simp
    | true =>
      refine ⟨r, Ev.step (fun k => by simp only [slices_IndexFunc_IsRow_1.l0]; exact rfl) (ifp (by omega) (ifp (by omega) (ifp (by omega) ?_))), ?_⟩
      · rw [rdL hi]
        refine somb (isRow1_eq _) (ifn (by rw [hx]; decide) ?_)
        rw [wrapS hi hn]; exact ih
      · rw [drop_cons hi, List.all_cons, hx]; simpa using hr
theorem isRow_ev (l : List Ld) (hn : l.length ≤ 140737488355328) : Ev (fun k => impl_IsRow.f k l) (RowOK l) := by
  unfold impl_IsRow.f RowOK
  by_cases h : l.length ≤ 12
  · refine ifn (by omega) ?_
    obtain ⟨r, hr, e⟩ := idx_l0 l hn 0 (Nat.zero_le _)
    have h1 : Ev (fun k => slices_ContainsFunc_IsRow_1.f k l) (!l.all LdOK) := by
      unfold slices_ContainsFunc_IsRow_1.f slices_IndexFunc_IsRow_1.f
      exact Ev.bind hr (done (by simpa using e))
    refine Ev.bind h1 (done ?_)
    simp [h]
  · exact ifp (by omega) (done (by simp [h]))

/-! ### copies, and what is alike -/
end Go.Proofs.Ytbjilpmnhghfhaa.PureRow
