/- What the checks of seesaws come to, and the row of weights at places. No conditions beyond those of the lemmas' own hypotheses. -/
import Derived.Test.YtkedfmmmjopofaaPlain
import Derived.Test.YtkedfmmmjopofaaXCex1
import Derived.Test.YtkedfmmmjopofaaXCex4
import Derived.Test.YtkedfmmmjopofaaXCex2
import Derived.Test.YtkedfmmmjopofaaXCex5
namespace Go.Proofs.Ytkedfmmmjopofaa.PureSeats
open Go.RowKit Go.Proofs.Ytkedfmmmjopofaa.XCe Go.Proofs.Ytkedfmmmjopofaa.Plain Go.Proofs.YtkedfmmmjopofaaW.PrintWords Go.Proofs.YtkedfmmmjopofaaW.PrintLast Go.Proofs.YtkedfmmmjopofaaW.PrintMore
set_option linter.unusedVariables false
theorem l1In_eq (a b c : Int) : spec_l1In.f a b c = some (decide (b ≤ a ∧ a ≤ c)) := by
  unfold spec_l1In.f
  by_cases h : b ≤ a
  · rw [if_pos h]; simp [h]
  · rw [if_neg h]; simp [h]
theorem within_eq (a b c : Int) : impl_within.f a b c = some (decide (b ≤ a ∧ a ≤ c)) := by
  unfold impl_within.f
  by_cases h : b ≤ a
  · rw [if_pos h]; simp [h]
  · rw [if_neg h]; simp [h]
def Wt (p : Int) : Bool := decide (1 ≤ p ∧ p ≤ 99)
def Sx (p : Int) : Bool := decide (1 ≤ p ∧ p ≤ 6)
theorem isWeight_eq (p : Int) : impl_isWeight.f p = some (Wt p) := by unfold impl_isWeight.f Wt; rw [within_eq]; rfl
theorem isSeats_eq (p : Int) : impl_isSeats.f p = some (Sx p) := by unfold impl_isSeats.f Sx; rw [within_eq]; rfl
def WsOK (l : List Int) : Bool := l.all Wt && decide (l.length ≤ 12)
theorem l5Are_l0 (l : List Int) (hn : l.length ≤ 140737488355328) (c : Int) : ∀ i, i ≤ l.length → Ev (fun k => spec_l5Are.l0 k l c (i : Int)) ((l.drop i).all Wt && ((l.length : Int) == c)) := by
  refine downTo l.length ?_ ?_
  · refine Ev.step (fun k => by simp only [spec_l5Are.l0]; exact rfl) (ifn (by omega) (done ?_))
    simp
  · intro i hi ih
    refine Ev.step (fun k => by simp only [spec_l5Are.l0]; exact rfl) (ifp (by omega) (ifp (by omega) ?_))
    rw [rd_lt hi, l1In_eq, drop_cons hi, List.all_cons]
    show Ev (fun k => if Wt l[i] = true then _ else _) _
    cases Wt l[i] with
    | false => exact ifn Bool.false_ne_true (done rfl)
    | true => refine ifp rfl ?_; rw [wrapS hi hn, Bool.true_and]; exact ih
theorem l9Weights_ev (l : List Int) (hn : l.length ≤ 140737488355328) : Ev (fun k => spec_l9Weights.f k l) (WsOK l) := by
  unfold spec_l9Weights.f spec_l5Are.f WsOK
  refine Ev.bind (l5Are_l0 l hn (l.length : Int) 0 (Nat.zero_le _)) ?_
  rw [List.drop_zero]
  cases l.all Wt with
  | false => exact ifn (by simp) (done rfl)
  | true => exact ifp (by simp) (done (by simp; omega))
theorem l9Ask_ev (l : List Int) (hn : l.length ≤ 140737488355328) (a : Int) : Ev (fun k => spec_l9Ask.f k l a) (WsOK l && Sx a) := by
  unfold spec_l9Ask.f
  refine Ev.bind (l9Weights_ev l hn) ?_
  rw [l1In_eq]
  cases WsOK l with
  | false => exact ifn (by decide) (done rfl)
  | true => exact ifp rfl (done rfl)
theorem idx_l0 (l : List Int) (hn : l.length ≤ 140737488355328) : ∀ i, i ≤ l.length → ∃ r : Int, Ev (fun k => slices_IndexFunc_areWeights_1.l0 k l (l.length : Int) (i : Int)) r ∧ decide (r ≥ 0) = !((l.drop i).all Wt) := by
  refine downTo l.length ?_ ?_
  · refine ⟨-1, Ev.step (fun k => by simp only [slices_IndexFunc_areWeights_1.l0]; exact rfl) (ifn (by omega) (done rfl)), by simp⟩
  · rintro i hi ⟨r, ih, hr⟩
    have hf : impl_areWeights_1.f l[i] = some (!Wt l[i]) := by unfold impl_areWeights_1.f; rw [isWeight_eq]; rfl
    cases hx : Wt l[i] with
    | false =>
      refine ⟨(i : Int), Ev.step (fun k => by simp only [slices_IndexFunc_areWeights_1.l0]; exact rfl) (ifp (by omega) (ifp (by omega) (ifp (by omega) ?_))), ?_⟩
      · rw [rd_lt hi]
        exact somb hf (ifp (by rw [hx]; rfl) (done rfl))
      · rw [drop_cons hi, List.all_cons, hx]; simp
    | true =>
      refine ⟨r, Ev.step (fun k => by simp only [slices_IndexFunc_areWeights_1.l0]; exact rfl) (ifp (by omega) (ifp (by omega) (ifp (by omega) ?_))), ?_⟩
      · rw [rd_lt hi]
        refine somb hf (ifn (by rw [hx]; decide) ?_)
        rw [wrapS hi hn]; exact ih
      · rw [drop_cons hi, List.all_cons, hx]; simpa using hr
theorem areWeights_ev (l : List Int) (hn : l.length ≤ 140737488355328) : Ev (fun k => impl_areWeights.f k l) (WsOK l) := by
  unfold impl_areWeights.f WsOK
  by_cases h : l.length ≤ 12
  · refine ifp (by omega) ?_
    obtain ⟨r, hr, e⟩ := idx_l0 l hn 0 (Nat.zero_le _)
    have h1 : Ev (fun k => slices_ContainsFunc_areWeights_1.f k l) (!l.all Wt) := by
      unfold slices_ContainsFunc_areWeights_1.f slices_IndexFunc_areWeights_1.f
      exact Ev.bind hr (done (by simpa using e))
    refine Ev.bind h1 (done ?_)
    simp [h]
  · exact ifn (by omega) (done (by simp [h]))
/-- A number that is one of a list, as the reference asks it. -/
theorem l1Has_l0 (l : List Int) (hn : l.length ≤ 140737488355328) (v : Int) : ∀ i, i ≤ l.length → Ev (fun k => spec_l1Has.l0 k l v (i : Int)) ((l.drop i).any fun x => decide (x = v)) := by
  refine downTo l.length ?_ ?_
  · exact Ev.step (fun k => by simp only [spec_l1Has.l0]; exact rfl) (ifn (by omega) (done (by simp)))
  · intro i hi ih
    refine Ev.step (fun k => by simp only [spec_l1Has.l0]; exact rfl) (ifp (by omega) (ifp (by omega) ?_))
    rw [rd_lt hi, drop_cons hi, List.any_cons]
    by_cases h : l[i] = v
    · exact ifp h (done (by simp [h]))
    · refine ifn h ?_
      rw [wrapS hi hn, decide_eq_false h, Bool.false_or]; exact ih
def Has (l : List Int) (v : Int) : Bool := l.any fun x => decide (x = v)
theorem l1Has_ev (l : List Int) (hn : l.length ≤ 140737488355328) (v : Int) : Ev (fun k => spec_l1Has.f k l v) (Has l v) := l1Has_l0 l hn v 0 (Nat.zero_le _)
theorem index_l0 (l : List Int) (hn : l.length ≤ 140737488355328) (v : Int) : ∀ i, i ≤ l.length → ∃ r : Int, Ev (fun k => slices_Index.l0 k l v (l.length : Int) (i : Int)) r ∧ decide (r ≥ 0) = (l.drop i).any fun x => decide (x = v) := by
  refine downTo l.length ?_ ?_
  · exact ⟨-1, Ev.step (fun k => by simp only [slices_Index.l0]; exact rfl) (ifn (by omega) (done rfl)), by simp⟩
  · rintro i hi ⟨r, ih, hr⟩
    by_cases h : l[i] = v
    · refine ⟨(i : Int), Ev.step (fun k => by simp only [slices_Index.l0]; exact rfl) (ifp (by omega) (ifp (by omega) (ifp (by omega) ?_))), ?_⟩
      · rw [rd_lt hi]; exact ifp h.symm (done rfl)
      · rw [drop_cons hi, List.any_cons]; simp [h]
    · refine ⟨r, Ev.step (fun k => by simp only [slices_Index.l0]; exact rfl) (ifp (by omega) (ifp (by omega) (ifp (by omega) ?_))), ?_⟩
      · rw [rd_lt hi]; refine ifn (fun e => h e.symm) ?_
        rw [wrapS hi hn]; exact ih
      · rw [drop_cons hi, List.any_cons, decide_eq_false h, Bool.false_or]; exact hr
theorem contains_ev (l : List Int) (hn : l.length ≤ 140737488355328) (v : Int) : Ev (fun k => slices_Contains.f k l v) (Has l v) := by
  obtain ⟨r, hr, e⟩ := index_l0 l hn v 0 (Nat.zero_le _)
  unfold slices_Contains.f slices_Index.f
  exact Ev.bind hr (done e)
end Go.Proofs.Ytkedfmmmjopofaa.PureSeats
