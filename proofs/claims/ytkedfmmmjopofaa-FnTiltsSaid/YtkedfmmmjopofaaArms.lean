/- What the checks of arms come to, in the program and in the reference alike. No conditions beyond those of the lemmas' own hypotheses. -/
import Derived.Test.YtkedfmmmjopofaaSeats
import Derived.Test.YtkedfmmmjopofaaXTix7
import Derived.Test.YtkedfmmmjopofaaXTix6
namespace Go.Proofs.Ytkedfmmmjopofaa.PureArms
open Go.RowKit Go.Proofs.Ytkedfmmmjopofaa.XTi Go.Proofs.Ytkedfmmmjopofaa.Plain Go.Proofs.Ytkedfmmmjopofaa.PureSeats Go.Proofs.YtkedfmmmjopofaaW.PrintWords Go.Proofs.YtkedfmmmjopofaaW.PrintLast Go.Proofs.YtkedfmmmjopofaaW.PrintMore
set_option linter.unusedVariables false
def ArmsOK (ws ar : List Int) : Bool := ar.all Sx && (WsOK ws && ((ar.length : Int) == (ws.length : Int)))
theorem l9Arms_l0 (ws : List Int) (hw : ws.length ≤ 140737488355328) (ar : List Int) (hn : ar.length ≤ 140737488355328) : ∀ i, i ≤ ar.length → Ev (fun k => spec_l9Arms.l0 k ws ar (i : Int)) ((ar.drop i).all Sx && (WsOK ws && ((ar.length : Int) == (ws.length : Int)))) := by
  refine downTo ar.length ?_ ?_
  · refine Ev.step (fun k => by simp only [spec_l9Arms.l0]; exact rfl) (ifn (by omega) (Ev.bind (l9Weights_ev ws hw) ?_))
    rw [List.drop_length, List.all_nil, Bool.true_and]
    cases WsOK ws with
    | false => exact ifn Bool.false_ne_true (done rfl)
    | true => exact ifp (Eq.refl true) (done rfl)
  · intro i hi ih
    refine Ev.step (fun k => by simp only [spec_l9Arms.l0]; exact rfl) (ifp (by omega) (ifp (by omega) ?_))
    rw [rd_lt hi, l1In_eq, drop_cons hi, List.all_cons]
    show Ev (fun k => if Sx ar[i] = true then _ else _) _
    cases Sx ar[i] with
    | false => exact ifn Bool.false_ne_true (done rfl)
    | true => refine ifp rfl ?_; rw [wrapS hi hn, Bool.true_and]; exact ih
theorem l9Arms_ev (ws : List Int) (hw : ws.length ≤ 140737488355328) (ar : List Int) (hn : ar.length ≤ 140737488355328) : Ev (fun k => spec_l9Arms.f k ws ar) (ArmsOK ws ar) := l9Arms_l0 ws hw ar hn 0 (Nat.zero_le _)
theorem idx2_l0 (l : List Int) (hn : l.length ≤ 140737488355328) : ∀ i, i ≤ l.length → ∃ r : Int, Ev (fun k => slices_IndexFunc_areArms_1.l0 k l (l.length : Int) (i : Int)) r ∧ decide (r ≥ 0) = !((l.drop i).all Sx) := by
  refine downTo l.length ?_ ?_
  · refine ⟨-1, Ev.step (fun k => by simp only [slices_IndexFunc_areArms_1.l0]; exact rfl) (ifn (by omega) (done rfl)), by simp⟩
  · rintro i hi ⟨r, ih, hr⟩
    have hf : impl_areArms_1.f l[i] = some (!Sx l[i]) := by unfold impl_areArms_1.f; rw [isSeats_eq]; rfl
    cases hx : Sx l[i] with
    | false =>
      refine ⟨(i : Int), Ev.step (fun k => by simp only [slices_IndexFunc_areArms_1.l0]; exact rfl) (ifp (by omega) (ifp (by omega) (ifp (by omega) ?_))), ?_⟩
      · rw [rd_lt hi]
        exact somb hf (ifp (by rw [hx]; rfl) (done rfl))
      · rw [drop_cons hi, List.all_cons, hx]; simp
    | true =>
      refine ⟨r, Ev.step (fun k => by simp only [slices_IndexFunc_areArms_1.l0]; exact rfl) (ifp (by omega) (ifp (by omega) (ifp (by omega) ?_))), ?_⟩
      · rw [rd_lt hi]
        refine somb hf (ifn (by rw [hx]; decide) ?_)
        rw [wrapS hi hn]; exact ih
      · rw [drop_cons hi, List.all_cons, hx]; simpa using hr
theorem areArms_ev (ws : List Int) (hw : ws.length ≤ 140737488355328) (ar : List Int) (hn : ar.length ≤ 140737488355328) : Ev (fun k => impl_areArms.f k ws ar) (ArmsOK ws ar) := by
  unfold impl_areArms.f ArmsOK
  refine Ev.bind (areWeights_ev ws hw) ?_
  cases WsOK ws with
  | false => exact ifn Bool.false_ne_true (done (by simp))
  | true =>
    refine ifp (Eq.refl true) ?_
    by_cases h : (ar.length : Int) = (ws.length : Int)
    · refine ifp h ?_
      obtain ⟨r, hr, e⟩ := idx2_l0 ar hn 0 (Nat.zero_le _)
      have h1 : Ev (fun k => slices_ContainsFunc_areArms_1.f k ar) (!ar.all Sx) := by
        unfold slices_ContainsFunc_areArms_1.f slices_IndexFunc_areArms_1.f
        exact Ev.bind hr (done (by simpa using e))
      refine Ev.bind h1 (done ?_)
      rw [h]; simp
    · refine ifn h (done ?_)
      rw [beq_eq_false_iff_ne.2 h]; simp
theorem armsV {ws ar : List Int} (h : ArmsOK ws ar = true) : ar.length = ws.length ∧ ws.length ≤ 12 ∧ (∀ x ∈ ar, 1 ≤ x ∧ x ≤ 6) ∧ ∀ x ∈ ws, 1 ≤ x ∧ x ≤ 99 := by
  unfold ArmsOK WsOK at h
  simp only [Bool.and_eq_true, decide_eq_true_eq, List.all_eq_true, beq_iff_eq] at h
  obtain ⟨h1, ⟨h2, h3⟩, h4⟩ := h
  refine ⟨by omega, h3, fun x hx => of_decide_eq_true (h1 x hx), fun x hx => of_decide_eq_true (h2 x hx)⟩
end Go.Proofs.Ytkedfmmmjopofaa.PureArms
