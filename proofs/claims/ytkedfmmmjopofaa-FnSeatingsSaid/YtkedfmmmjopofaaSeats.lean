/- What the checks of seesaws come to, and the row of weights at places. No conditions beyond those of the lemmas' own hypotheses. -/
import Derived.Test.YtkedfmmmjopofaaPlain
import Derived.Test.YtkedfmmmjopofaaXSex7
import Derived.Test.YtkedfmmmjopofaaXSex14
import Derived.Test.YtkedfmmmjopofaaXSex12
import Derived.Test.YtkedfmmmjopofaaXSex5
import Derived.Test.YtkedfmmmjopofaaXSex16
namespace Go.Proofs.Ytkedfmmmjopofaa.PureSeats
open Go.RowKit Go.Proofs.Ytkedfmmmjopofaa.XSe Go.Proofs.Ytkedfmmmjopofaa.Plain Go.Proofs.YtkedfmmmjopofaaW.PrintWords Go.Proofs.YtkedfmmmjopofaaW.PrintLast Go.Proofs.YtkedfmmmjopofaaW.PrintMore
set_option linter.unusedVariables false
theorem l1In_eq (a b c : Int) : spec_l1In.f a b c = some (decide (b ≤ a ∧ a ≤ c)) := by
  unfold spec_l1In.f
  by_cases h : b ≤ a
  · rw [if_pos h]; simp [h]
  · rw [if_neg h]; simp [h]
theorem within_eq (a b c : Int) : impl_within.f a b c = some (decide (b ≤ a ∧ a ≤ c)) := by
  unfold impl_within.f
  by_cases h : b ≤ a
  · rw [if_pos h]; simp [h]
  · rw [if_neg h]; simp [h]
def Wt (p : Int) : Bool := decide (1 ≤ p ∧ p ≤ 99)
def Sx (p : Int) : Bool := decide (1 ≤ p ∧ p ≤ 6)
theorem isWeight_eq (p : Int) : impl_isWeight.f p = some (Wt p) := by unfold impl_isWeight.f Wt; rw [within_eq]; rfl
theorem isSeats_eq (p : Int) : impl_isSeats.f p = some (Sx p) := by unfold impl_isSeats.f Sx; rw [within_eq]; rfl
def WsOK (l : List Int) : Bool := l.all Wt && decide (l.length ≤ 12)
theorem l5Are_l0 (l : List Int) (hn : l.length ≤ 140737488355328) (c : Int) : ∀ i, i ≤ l.length → Ev (fun k => spec_l5Are.l0 k l c (i : Int)) ((l.drop i).all Wt && ((l.length : Int) == c)) := by
  refine downTo l.length ?_ ?_
  · refine Ev.step (fun k => by simp only [spec_l5Are.l0]; exact rfl) (ifn (by omega) (done ?_))
    simp
  · intro i hi ih
    refine Ev.step (fun k => by simp only [spec_l5Are.l0]; exact rfl) (ifp (by omega) (ifp (by omega) ?_))
    rw [rd_lt hi, l1In_eq, drop_cons hi, List.all_cons]
    show Ev (fun k => if Wt l[i] = true then _ else _) _
    cases Wt l[i] with
    | false => exact ifn Bool.false_ne_true (done rfl)
    | true => refine ifp rfl ?_; rw [wrapS hi hn, Bool.true_and]; exact ih
theorem l9Weights_ev (l : List Int) (hn : l.length ≤ 140737488355328) : Ev (fun k => spec_l9Weights.f k l) (WsOK l) := by
  unfold spec_l9Weights.f spec_l5Are.f WsOK
  refine Ev.bind (l5Are_l0 l hn (l.length : Int) 0 (Nat.zero_le _)) ?_
  rw [List.drop_zero]
  cases l.all Wt with
  | false => exact ifn (by simp) (done rfl)
  | true => exact ifp (by simp) (done (by simp; omega))
theorem l9Ask_ev (l : List Int) (hn : l.length ≤ 140737488355328) (a : Int) : Ev (fun k => spec_l9Ask.f k l a) (WsOK l && Sx a) := by
  unfold spec_l9Ask.f
  refine Ev.bind (l9Weights_ev l hn) ?_
  rw [l1In_eq]
  cases WsOK l with
  | false => exact ifn (by decide) (done rfl)
  | true => exact ifp rfl (done rfl)
theorem idx_l0 (l : List Int) (hn : l.length ≤ 140737488355328) : ∀ i, i ≤ l.length → ∃ r : Int, Ev (fun k => slices_IndexFunc_areWeights_1.l0 k l (l.length : Int) (i : Int)) r ∧ decide (r ≥ 0) = !((l.drop i).all Wt) := by
  refine downTo l.length ?_ ?_
  · refine ⟨-1, Ev.step (fun k => by simp only [slices_IndexFunc_areWeights_1.l0]; exact rfl) (ifn (by omega) (done rfl)), by simp⟩
  · rintro i hi ⟨r, ih, hr⟩
    have hf : impl_areWeights_1.f l[i] = some (!Wt l[i]) := by unfold impl_areWeights_1.f; rw [isWeight_eq]; rfl
    cases hx : Wt l[i] with
    | false =>
      refine ⟨(i : Int), Ev.step (fun k => by simp only [slices_IndexFunc_areWeights_1.l0]; exact rfl) (ifp (by omega) (ifp (by omega) (ifp (by omega) ?_))), ?_⟩
      · rw [rd_lt hi]
        exact somb hf (ifp (by rw [hx]; rfl) (done rfl))
      · rw [drop_cons hi, List.all_cons, hx]; simp
    | true =>
      refine ⟨r, Ev.step (fun k => by simp only [slices_IndexFunc_areWeights_1.l0]; exact rfl) (ifp (by omega) (ifp (by omega) (ifp (by omega) ?_))), ?_⟩
      · rw [rd_lt hi]
        refine somb hf (ifn (by rw [hx]; decide) ?_)
        rw [wrapS hi hn]; exact ih
      · rw [drop_cons hi, List.all_cons, hx]; simpa using hr
theorem areWeights_ev (l : List Int) (hn : l.length ≤ 140737488355328) : Ev (fun k => impl_areWeights.f k l) (WsOK l) := by
  unfold impl_areWeights.f WsOK
  by_cases h : l.length ≤ 12
  · refine ifp (by omega) ?_
    obtain ⟨r, hr, e⟩ := idx_l0 l hn 0 (Nat.zero_le _)
    have h1 : Ev (fun k => slices_ContainsFunc_areWeights_1.f k l) (!l.all Wt) := by
      unfold slices_ContainsFunc_areWeights_1.f slices_IndexFunc_areWeights_1.f
      exact Ev.bind hr (done (by simpa using e))
    refine Ev.bind h1 (done ?_)
    simp [h]
  · exact ifn (by omega) (done (by simp [h]))
/-- A number that is one of a list, as the reference asks it. -/
theorem l1Has_l0 (l : List Int) (hn : l.length ≤ 140737488355328) (v : Int) : ∀ i, i ≤ l.length → Ev (fun k => spec_l1Has.l0 k l v (i : Int)) ((l.drop i).any fun x => decide (x = v)) := by
  refine downTo l.length ?_ ?_
  · exact Ev.step (fun k => by simp only [spec_l1Has.l0]; exact rfl) (ifn (by omega) (done (by simp)))
  · intro i hi ih
    refine Ev.step (fun k => by simp only [spec_l1Has.l0]; exact rfl) (ifp (by omega) (ifp (by omega) ?_))
    rw [rd_lt hi, drop_cons hi, List.any_cons]
    by_cases h : l[i] = v
    · exact ifp h (done (by simp [h]))
    · refine ifn h ?_
      rw [wrapS hi hn, decide_eq_false h, Bool.false_or]; exact ih
def Has (l : List Int) (v : Int) : Bool := l.any fun x => decide (x = v)
theorem l1Has_ev (l : List Int) (hn : l.length ≤ 140737488355328) (v : Int) : Ev (fun k => spec_l1Has.f k l v) (Has l v) := l1Has_l0 l hn v 0 (Nat.zero_le _)
theorem index_l0 (l : List Int) (hn : l.length ≤ 140737488355328) (v : Int) : ∀ i, i ≤ l.length → ∃ r : Int, Ev (fun k => slices_Index.l0 k l v (l.length : Int) (i : Int)) r ∧ decide (r ≥ 0) = (l.drop i).any fun x => decide (x = v) := by
  refine downTo l.length ?_ ?_
  · exact ⟨-1, Ev.step (fun k => by simp only [slices_Index.l0]; exact rfl) (ifn (by omega) (done rfl)), by simp⟩
  · rintro i hi ⟨r, ih, hr⟩
    by_cases h : l[i] = v
    · refine ⟨(i : Int), Ev.step (fun k => by simp only [slices_Index.l0]; exact rfl) (ifp (by omega) (ifp (by omega) (ifp (by omega) ?_))), ?_⟩
      · rw [rd_lt hi]; exact ifp h.symm (done rfl)
      · rw [drop_cons hi, List.any_cons]; simp [h]
    · refine ⟨r, Ev.step (fun k => by simp only [slices_Index.l0]; exact rfl) (ifp (by omega) (ifp (by omega) (ifp (by omega) ?_))), ?_⟩
      · rw [rd_lt hi]; refine ifn (fun e => h e.symm) ?_
        rw [wrapS hi hn]; exact ih
      · rw [drop_cons hi, List.any_cons, decide_eq_false h, Bool.false_or]; exact hr
theorem contains_ev (l : List Int) (hn : l.length ≤ 140737488355328) (v : Int) : Ev (fun k => slices_Contains.f k l v) (Has l v) := by
  obtain ⟨r, hr, e⟩ := index_l0 l hn v 0 (Nat.zero_le _)
  unfold slices_Contains.f slices_Index.f
  exact Ev.bind hr (done e)
theorem seats_l0 (ws : List Int) (a : Int) (l : List Int) (hn : l.length ≤ 140737488355328) : ∀ i, i ≤ l.length → ∃ r, Ev (fun k => spec_l9Seats.l0 k ws a l (i : Int)) r ∧ Ev (fun k => impl_isSeating.l0 k ws a l l (l.length : Int) (i : Int)) r := by
  refine downTo l.length ?_ ?_
  · exact ⟨_, Ev.step (fun k => by simp only [spec_l9Seats.l0]; exact rfl) (ifn (by omega) (done rfl)), Ev.step (fun k => by simp only [impl_isSeating.l0]; exact rfl) (ifn (by omega) (done rfl))⟩
  · rintro i hi ⟨r, e1, e2⟩
    have hi0 : 0 ≤ (i : Int) := by omega
    have hil : (i : Int) < (l.length : Int) := by omega
    have hile : (i : Int) ≤ (l.length : Int) := by omega
    have ht : (l.take (i : Int).toNat).length ≤ 140737488355328 := by rw [List.length_take]; omega
    have c1 := l1Has_ev (l.take (i : Int).toNat) ht (rd l (i : Int))
    have c2 := contains_ev (l.take (i : Int).toNat) ht (rd l (i : Int))
    by_cases hw : wrap64 (30 - a) ≤ rd l (i : Int) ∧ rd l (i : Int) ≤ wrap64 (30 + a)
    · by_cases h30 : rd l (i : Int) = 30
      · exact ⟨false, Ev.step (fun k => by simp only [spec_l9Seats.l0]; exact rfl) (ifp hil (ifp hi0 (somb (l1In_eq _ _ _) (ifp (decide_eq_true hw) (ifp h30 (done rfl)))))), Ev.step (fun k => by simp only [impl_isSeating.l0]; exact rfl) (ifp hil (ifp hi0 (ifp hil (somb (within_eq _ _ _) (ifp (decide_eq_true hw) (ifp h30 (done rfl)))))))⟩
      · cases hh : Has (l.take (i : Int).toNat) (rd l (i : Int)) with
        | true =>
          rw [hh] at c1 c2
          refine ⟨false, Ev.step (fun k => by simp only [spec_l9Seats.l0]; exact rfl) (ifp hil (ifp hi0 (somb (l1In_eq _ _ _) (ifp (decide_eq_true hw) (ifn h30 (ifp hile (Ev.bind c1 ?_))))))), Ev.step (fun k => by simp only [impl_isSeating.l0]; exact rfl) (ifp hil (ifp hi0 (ifp hil (somb (within_eq _ _ _) (ifp (decide_eq_true hw) (ifn h30 (ifp hile (Ev.bind c2 ?_))))))))⟩
          · exact ifp (Eq.refl true) (done rfl)
          · exact ifp (Eq.refl true) (done rfl)
        | false =>
          rw [hh] at c1 c2
          refine ⟨r, Ev.step (fun k => by simp only [spec_l9Seats.l0]; exact rfl) (ifp hil (ifp hi0 (somb (l1In_eq _ _ _) (ifp (decide_eq_true hw) (ifn h30 (ifp hile (Ev.bind c1 (ifn Bool.false_ne_true ?_)))))))), Ev.step (fun k => by simp only [impl_isSeating.l0]; exact rfl) (ifp hil (ifp hi0 (ifp hil (somb (within_eq _ _ _) (ifp (decide_eq_true hw) (ifn h30 (ifp hile (Ev.bind c2 (ifn Bool.false_ne_true ?_)))))))))⟩
          · rw [wrapS hi hn]; exact e1
          · rw [wrapS hi hn]; exact e2
    · have hf : ¬ (decide (wrap64 (30 - a) ≤ rd l (i : Int) ∧ rd l (i : Int) ≤ wrap64 (30 + a)) = true) := by rw [decide_eq_false hw]; exact Bool.false_ne_true
      exact ⟨false, Ev.step (fun k => by simp only [spec_l9Seats.l0]; exact rfl) (ifp hil (ifp hi0 (somb (l1In_eq _ _ _) (ifn hf (done rfl))))), Ev.step (fun k => by simp only [impl_isSeating.l0]; exact rfl) (ifp hil (ifp hi0 (ifp hil (somb (within_eq _ _ _) (ifn hf (done rfl))))))⟩
/-- The seats of a seating: the reference and the program tell the same, and there are as many of them as weights. -/
theorem seats_ev (ws : List Int) (a : Int) (l : List Int) (hn : l.length ≤ 140737488355328) : ∃ r, Ev (fun k => spec_l9Seats.f k ws a l) r ∧ Ev (fun k => impl_isSeating.f k ws a l) r := seats_l0 ws a l hn 0 (Nat.zero_le _)
theorem seats_len (ws : List Int) (a : Int) (l : List Int) (hn : l.length ≤ 140737488355328) : ∀ i, i ≤ l.length → Ev (fun k => spec_l9Seats.l0 k ws a l (i : Int)) true → l.length = ws.length := by
  refine downTo l.length ?_ ?_
  · intro h
    have h2 : Ev (fun k => spec_l9Seats.l0 k ws a l (l.length : Int)) ((l.length : Int) == (ws.length : Int)) := Ev.step (fun k => by simp only [spec_l9Seats.l0]; exact rfl) (ifn (by omega) (done rfl))
    have := eq_of_beq (ev_fun h h2).symm
    omega
  · intro i hi ih h
    have hi0 : 0 ≤ (i : Int) := by omega
    have hil : (i : Int) < (l.length : Int) := by omega
    have hile : (i : Int) ≤ (l.length : Int) := by omega
    have ht : (l.take (i : Int).toNat).length ≤ 140737488355328 := by rw [List.length_take]; omega
    have c1 := l1Has_ev (l.take (i : Int).toNat) ht (rd l (i : Int))
    refine ih ?_
    obtain ⟨r, e1, _⟩ := seats_l0 ws a l hn (i + 1) hi
    by_cases hw : wrap64 (30 - a) ≤ rd l (i : Int) ∧ rd l (i : Int) ≤ wrap64 (30 + a)
    · by_cases h30 : rd l (i : Int) = 30
      · have h2 : Ev (fun k => spec_l9Seats.l0 k ws a l (i : Int)) false := Ev.step (fun k => by simp only [spec_l9Seats.l0]; exact rfl) (ifp hil (ifp hi0 (somb (l1In_eq _ _ _) (ifp (decide_eq_true hw) (ifp h30 (done rfl))))))
        exact absurd (ev_fun h2 h) Bool.false_ne_true
      · cases hh : Has (l.take (i : Int).toNat) (rd l (i : Int)) with
        | true =>
          rw [hh] at c1
          have h2 : Ev (fun k => spec_l9Seats.l0 k ws a l (i : Int)) false := by
            refine Ev.step (fun k => by simp only [spec_l9Seats.l0]; exact rfl) (ifp hil (ifp hi0 (somb (l1In_eq _ _ _) (ifp (decide_eq_true hw) (ifn h30 (ifp hile (Ev.bind c1 ?_)))))))
            exact ifp (Eq.refl true) (done rfl)
          exact absurd (ev_fun h2 h) Bool.false_ne_true
        | false =>
          rw [hh] at c1
          have h2 : Ev (fun k => spec_l9Seats.l0 k ws a l (i : Int)) r := by
            refine Ev.step (fun k => by simp only [spec_l9Seats.l0]; exact rfl) (ifp hil (ifp hi0 (somb (l1In_eq _ _ _) (ifp (decide_eq_true hw) (ifn h30 (ifp hile (Ev.bind c1 (ifn Bool.false_ne_true ?_))))))))
            rw [wrapS hi hn]; exact e1
          rw [ev_fun h h2]; exact e1
    · have hf : ¬ (decide (wrap64 (30 - a) ≤ rd l (i : Int) ∧ rd l (i : Int) ≤ wrap64 (30 + a)) = true) := by rw [decide_eq_false hw]; exact Bool.false_ne_true
      have h2 : Ev (fun k => spec_l9Seats.l0 k ws a l (i : Int)) false := Ev.step (fun k => by simp only [spec_l9Seats.l0]; exact rfl) (ifp hil (ifp hi0 (somb (l1In_eq _ _ _) (ifn hf (done rfl)))))
      exact absurd (ev_fun h2 h) Bool.false_ne_true
/-- IsSeating, in the program and in the reference alike. -/
theorem isSeating_ev (ws : List Int) (hw : ws.length ≤ 140737488355328) (a : Int) (l : List Int) (hn : l.length ≤ 140737488355328) : ∃ r, Ev (fun k => spec_IsSeating.f k ws a l) r ∧ Ev (fun k => impl_IsSeating.f k ws a l) r := by
  have h1 := l9Ask_ev ws hw a
  have h2 := areWeights_ev ws hw
  obtain ⟨r, e1, e2⟩ := seats_ev ws a l hn
  unfold spec_IsSeating.f impl_IsSeating.f
  cases hr : WsOK ws with
  | false =>
    rw [hr] at h1 h2
    exact ⟨(false, false), Ev.bind h1 (ifn Bool.false_ne_true (done rfl)), Ev.bind h2 (ifn Bool.false_ne_true (done rfl))⟩
  | true =>
    cases hp : Sx a with
    | false =>
      rw [hr, hp] at h1
      rw [hr] at h2
      exact ⟨(false, false), Ev.bind h1 (ifn Bool.false_ne_true (done rfl)), Ev.bind h2 (ifp (Eq.refl true) (somb (isSeats_eq a) (ifn (by rw [hp]; exact Bool.false_ne_true) (done rfl))))⟩
    | true =>
      rw [hr, hp] at h1
      rw [hr] at h2
      exact ⟨(r, true), Ev.bind h1 (ifp (Eq.refl true) (Ev.bind e1 (done rfl))), Ev.bind h2 (ifp (Eq.refl true) (somb (isSeats_eq a) (ifp hp (Ev.bind e2 (done rfl)))))⟩
end Go.Proofs.Ytkedfmmmjopofaa.PureSeats
