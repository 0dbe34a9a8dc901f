/- Seatings and their rows, told. No conditions beyond those of the lemmas' own hypotheses. -/
import Derived.Test.YtkedfmmmjopofaaSeats
import Derived.Test.YtkedfmmmjopofaaRowsX
import Derived.Test.YtkedfmmmjopofaaMoment
import Derived.Test.YtkedfmmmjopofaaXSex14
import Derived.Test.YtkedfmmmjopofaaXSex12
import Derived.Test.YtkedfmmmjopofaaXSex15
import Derived.Test.YtkedfmmmjopofaaXSex13
import Derived.Test.YtkedfmmmjopofaaXSex16
namespace Go.Proofs.Ytkedfmmmjopofaa.PureSeatX
open Go.RowKit Go.Proofs.Ytkedfmmmjopofaa.XSe Go.Proofs.Ytkedfmmmjopofaa.Plain Go.Proofs.Ytkedfmmmjopofaa.PureSeats Go.Proofs.Ytkedfmmmjopofaa.PureRowsX Go.Proofs.YtkedfmmmjopofaaW.PrintWords Go.Proofs.YtkedfmmmjopofaaW.PrintLast Go.Proofs.YtkedfmmmjopofaaW.PrintMore
set_option linter.unusedVariables false
/-- Is the seat at a place of the list one? -/
def okAt (a : Int) (l : List Int) (i : Nat) : Bool := decide (wrap64 (30 - a) ≤ rd l (i : Int) ∧ rd l (i : Int) ≤ wrap64 (30 + a)) && (decide (rd l (i : Int) ≠ 30) && !Has (l.take i) (rd l (i : Int)))
def SeatOK (ws : List Int) (a : Int) (l : List Int) : Bool := (List.range' 0 l.length).all (okAt a l) && decide (l.length = ws.length)
theorem seats_l0 (ws : List Int) (a : Int) (l : List Int) (hn : l.length ≤ 140737488355328) : ∀ i, i ≤ l.length → Ev (fun k => spec_l9Seats.l0 k ws a l (i : Int)) ((List.range' i (l.length - i)).all (okAt a l) && decide (l.length = ws.length)) ∧ Ev (fun k => impl_isSeating.l0 k ws a l l (l.length : Int) (i : Int)) ((List.range' i (l.length - i)).all (okAt a l) && decide (l.length = ws.length)) := by
  refine downTo l.length ?_ ?_
  · have e : ((l.length : Int) == (ws.length : Int)) = ((List.range' l.length (l.length - l.length)).all (okAt a l) && decide (l.length = ws.length)) := by
      rw [Nat.sub_self]
      by_cases h : l.length = ws.length
      · simp [h]
      · have : ¬ (l.length : Int) = (ws.length : Int) := by omega
        simp [h, this]
    exact ⟨Ev.step (fun k => by simp only [spec_l9Seats.l0]; exact rfl) (ifn (by omega) (done e)), Ev.step (fun k => by simp only [impl_isSeating.l0]; exact rfl) (ifn (by omega) (done e))⟩
  · rintro i hi ⟨e1, e2⟩
    have hi0 : 0 ≤ (i : Int) := by omega
    have hil : (i : Int) < (l.length : Int) := by omega
    have hile : (i : Int) ≤ (l.length : Int) := by omega
    have ht : (l.take (i : Int).toNat).length ≤ 140737488355328 := by rw [List.length_take]; omega
    have c1 := l1Has_ev (l.take (i : Int).toNat) ht (rd l (i : Int))
    have c2 := contains_ev (l.take (i : Int).toNat) ht (rd l (i : Int))
    rw [← wrapS hi hn] at e1 e2
    rw [show l.length - i = (l.length - (i + 1)) + 1 from by omega, List.range'_succ, List.all_cons]
    have eo : okAt a l i = (decide (wrap64 (30 - a) ≤ rd l (i : Int) ∧ rd l (i : Int) ≤ wrap64 (30 + a)) && (decide (rd l (i : Int) ≠ 30) && !Has (l.take (i : Int).toNat) (rd l (i : Int)))) := by unfold okAt; rw [Int.toNat_natCast]
    rw [eo]
    by_cases hw : wrap64 (30 - a) ≤ rd l (i : Int) ∧ rd l (i : Int) ≤ wrap64 (30 + a)
    · rw [decide_eq_true hw, Bool.true_and]
      by_cases h30 : rd l (i : Int) = 30
      · rw [decide_eq_false (fun q => q h30), Bool.false_and, Bool.false_and, Bool.false_and]
        exact ⟨Ev.step (fun k => by simp only [spec_l9Seats.l0]; exact rfl) (ifp hil (ifp hi0 (somb (l1In_eq _ _ _) (ifp (decide_eq_true hw) (ifp h30 (done rfl)))))), Ev.step (fun k => by simp only [impl_isSeating.l0]; exact rfl) (ifp hil (ifp hi0 (ifp hil (somb (within_eq _ _ _) (ifp (decide_eq_true hw) (ifp h30 (done rfl)))))))⟩
      · rw [decide_eq_true (show rd l (i : Int) ≠ 30 from h30), Bool.true_and]
        cases hh : Has (l.take (i : Int).toNat) (rd l (i : Int)) with
        | true =>
          rw [hh] at c1 c2
          refine ⟨Ev.step (fun k => by simp only [spec_l9Seats.l0]; exact rfl) (ifp hil (ifp hi0 (somb (l1In_eq _ _ _) (ifp (decide_eq_true hw) (ifn h30 (ifp hile (Ev.bind c1 ?_))))))), Ev.step (fun k => by simp only [impl_isSeating.l0]; exact rfl) (ifp hil (ifp hi0 (ifp hil (somb (within_eq _ _ _) (ifp (decide_eq_true hw) (ifn h30 (ifp hile (Ev.bind c2 ?_))))))))⟩
          · exact ifp (Eq.refl true) (done rfl)
          · exact ifp (Eq.refl true) (done rfl)
        | false =>
          rw [hh] at c1 c2
          exact ⟨Ev.step (fun k => by simp only [spec_l9Seats.l0]; exact rfl) (ifp hil (ifp hi0 (somb (l1In_eq _ _ _) (ifp (decide_eq_true hw) (ifn h30 (ifp hile (Ev.bind c1 (ifn Bool.false_ne_true e1)))))))), Ev.step (fun k => by simp only [impl_isSeating.l0]; exact rfl) (ifp hil (ifp hi0 (ifp hil (somb (within_eq _ _ _) (ifp (decide_eq_true hw) (ifn h30 (ifp hile (Ev.bind c2 (ifn Bool.false_ne_true e2)))))))))⟩
    · rw [decide_eq_false hw, Bool.false_and, Bool.false_and, Bool.false_and]
      have hf : ¬ (decide (wrap64 (30 - a) ≤ rd l (i : Int) ∧ rd l (i : Int) ≤ wrap64 (30 + a)) = true) := by rw [decide_eq_false hw]; exact Bool.false_ne_true
      exact ⟨Ev.step (fun k => by simp only [spec_l9Seats.l0]; exact rfl) (ifp hil (ifp hi0 (somb (l1In_eq _ _ _) (ifn hf (done rfl))))), Ev.step (fun k => by simp only [impl_isSeating.l0]; exact rfl) (ifp hil (ifp hi0 (ifp hil (somb (within_eq _ _ _) (ifn hf (done rfl))))))⟩
theorem seats_x (ws : List Int) (a : Int) (l : List Int) (hn : l.length ≤ 140737488355328) : Ev (fun k => spec_l9Seats.f k ws a l) (SeatOK ws a l) ∧ Ev (fun k => impl_isSeating.f k ws a l) (SeatOK ws a l) := seats_l0 ws a l hn 0 (Nat.zero_le _)
/-- What IsSeating returns. -/
def IsRes (ws : List Int) (a : Int) (l : List Int) : Bool × Bool := if WsOK ws = true ∧ Sx a = true then (SeatOK ws a l, true) else (false, false)
/-- What SeatRow returns. -/
def RowRes (ws : List Int) (a : Int) (l : List Int) : List Ld × Bool := if (WsOK ws = true ∧ Sx a = true) ∧ SeatOK ws a l = true then (rows ws l, true) else ([], false)
theorem both (ws : List Int) (hn : ws.length ≤ 1048576) (a : Int) (l : List Int) (hl : l.length ≤ 1048576) : (Ev (fun k => spec_IsSeating.f k ws a l) (IsRes ws a l) ∧ Ev (fun k => impl_IsSeating.f k ws a l) (IsRes ws a l)) ∧ Ev (fun k => spec_SeatRow.f k ws a l) (RowRes ws a l) ∧ Ev (fun k => impl_SeatRow.f k ws a l) (RowRes ws a l) := by
  have h1 := l9Ask_ev ws (by omega) a
  have h2 := areWeights_ev ws (by omega)
  obtain ⟨e1, e2⟩ := seats_x ws a l (by omega)
  have his : Ev (fun k => impl_IsSeating.f k ws a l) (IsRes ws a l) := by
    unfold impl_IsSeating.f IsRes
    cases hr : WsOK ws with
    | false => rw [hr] at h2; rw [if_neg (fun q => Bool.false_ne_true q.1)]; exact Ev.bind h2 (ifn Bool.false_ne_true (done rfl))
    | true =>
      rw [hr] at h2
      cases hp : Sx a with
      | false => rw [if_neg (fun q => Bool.false_ne_true q.2)]; exact Ev.bind h2 (ifp (Eq.refl true) (somb (isSeats_eq a) (ifn (by rw [hp]; exact Bool.false_ne_true) (done rfl))))
      | true => rw [if_pos ⟨rfl, rfl⟩]; exact Ev.bind h2 (ifp (Eq.refl true) (somb (isSeats_eq a) (ifp hp (Ev.bind e2 (done rfl)))))
  refine ⟨⟨?_, his⟩, ?_, ?_⟩
  · unfold spec_IsSeating.f IsRes
    by_cases hc : WsOK ws = true ∧ Sx a = true
    · rw [if_pos hc]
      rw [hc.1, hc.2] at h1
      exact Ev.bind h1 (ifp (Eq.refl true) (Ev.bind e1 (done rfl)))
    · rw [if_neg hc]
      have : (WsOK ws && Sx a) = false := by
        cases h : (WsOK ws && Sx a) with
        | false => rfl
        | true => rw [Bool.and_eq_true] at h; exact absurd h hc
      rw [this] at h1
      exact Ev.bind h1 (ifn Bool.false_ne_true (done rfl))
  · unfold spec_SeatRow.f RowRes
    by_cases hc : WsOK ws = true ∧ Sx a = true
    · rw [hc.1, hc.2] at h1
      cases hs : SeatOK ws a l with
      | false =>
        rw [hs] at e1
        rw [if_neg (fun q => Bool.false_ne_true q.2)]
        refine Ev.bind h1 (ifp (Eq.refl true) (Ev.bind e1 ?_))
        exact ifn Bool.false_ne_true (done rfl)
      | true =>
        rw [hs] at e1
        rw [if_pos ⟨hc, rfl⟩]
        have hlen : l.length = ws.length := by
          unfold SeatOK at hs
          rw [Bool.and_eq_true] at hs
          exact of_decide_eq_true hs.2
        refine Ev.bind h1 (ifp (Eq.refl true) (Ev.bind e1 ?_))
        exact ifp (Eq.refl true) (Ev.bind (row_ev ws l hn hlen).1 (done rfl))
    · rw [if_neg (fun q => hc q.1)]
      have : (WsOK ws && Sx a) = false := by
        cases h : (WsOK ws && Sx a) with
        | false => rfl
        | true => rw [Bool.and_eq_true] at h; exact absurd h hc
      rw [this] at h1
      exact Ev.bind h1 (ifn Bool.false_ne_true (done rfl))
  · unfold impl_SeatRow.f RowRes
    refine Ev.bind his ?_
    unfold IsRes
    by_cases hc : WsOK ws = true ∧ Sx a = true
    · rw [if_pos hc]
      cases hs : SeatOK ws a l with
      | false =>
        rw [if_neg (fun q => Bool.false_ne_true q.2)]
        exact ifn Bool.false_ne_true (done rfl)
      | true =>
        rw [if_pos ⟨hc, rfl⟩]
        have hlen : l.length = ws.length := by
          unfold SeatOK at hs
          rw [Bool.and_eq_true] at hs
          exact of_decide_eq_true hs.2
        exact ifp (Eq.refl true) (ifp (Eq.refl true) (Ev.bind (row_ev ws l hn hlen).2 (done rfl)))
    · rw [if_neg hc, if_neg (fun q => hc q.1)]
      exact ifn Bool.false_ne_true (done rfl)
/-- The moment of weights at places about the middle. -/
def mo : List Int → List Int → Int
  | w :: ws, x :: xs => w * (x - 30) + mo ws xs
  | _, _ => 0
theorem mom_rows : ∀ ws xs : List Int, PureMoment.mom 30 (rows ws xs) = mo ws xs := by
  intro ws
  induction ws with
  | nil => intro xs; rfl
  | cons w ws ih =>
    intro xs
    cases xs with
    | nil => rfl
    | cons x xs =>
      show w * (x - 30) + PureMoment.mom 30 (rows ws xs) = w * (x - 30) + mo ws xs
      rw [ih]
theorem rows_ok : ∀ ws xs : List Int, (∀ w ∈ ws, 1 ≤ w ∧ w ≤ 99) → (∀ x ∈ xs, 0 ≤ x ∧ x ≤ 60) → (rows ws xs).all PureRow.LdOK = true := by
  intro ws
  induction ws with
  | nil => intro xs _ _; rfl
  | cons w ws ih =>
    intro xs h1 h2
    cases xs with
    | nil => rfl
    | cons x xs =>
      have e := ih xs (fun y hy => h1 y (List.mem_cons_of_mem _ hy)) (fun y hy => h2 y (List.mem_cons_of_mem _ hy))
      show (PureRow.LdOK ⟨x, w⟩ && (rows ws xs).all PureRow.LdOK) = true
      rw [e, Bool.and_true]
      unfold PureRow.LdOK PureRow.Pl PureRow.Wt
      rw [decide_eq_true (h1 w (List.mem_cons_self ..)), decide_eq_true (h2 x (List.mem_cons_self ..))]; rfl
theorem wsV {ws : List Int} (h : WsOK ws = true) : ws.length ≤ 12 ∧ ∀ w ∈ ws, 1 ≤ w ∧ w ≤ 99 := by
  unfold WsOK at h
  simp only [Bool.and_eq_true, decide_eq_true_eq, List.all_eq_true] at h
  exact ⟨h.2, fun w hw => of_decide_eq_true (h.1 w hw)⟩
theorem seatV {ws : List Int} {a : Int} {l : List Int} (ha : Sx a = true) (h : SeatOK ws a l = true) : l.length = ws.length ∧ ∀ x ∈ l, 24 ≤ x ∧ x ≤ 36 := by
  have ha' := of_decide_eq_true ha
  unfold SeatOK at h
  rw [Bool.and_eq_true, List.all_eq_true] at h
  refine ⟨of_decide_eq_true h.2, fun x hx => ?_⟩
  obtain ⟨i, hi, e⟩ := List.getElem_of_mem hx
  have q := h.1 i (by rw [List.mem_range'_1]; omega)
  unfold okAt at q
  rw [Bool.and_eq_true] at q
  have q1 := of_decide_eq_true q.1
  rw [rd_lt hi, e, w64 (by omega) (by omega), w64 (by omega) (by omega)] at q1
  omega
theorem row_ok {ws : List Int} {a : Int} {l : List Int} (hw : WsOK ws = true) (ha : Sx a = true) (h : SeatOK ws a l = true) : PureRow.RowOK (rows ws l) = true := by
  obtain ⟨h1, h2⟩ := wsV hw
  obtain ⟨h3, h4⟩ := seatV ha h
  unfold PureRow.RowOK
  rw [rows_ok ws l h2 (fun x hx => by have := h4 x hx; omega), Bool.and_true]
  exact decide_eq_true (by rw [rows_len h3]; exact h1)
theorem moment_row {ws : List Int} {a : Int} {l : List Int} (hw : WsOK ws = true) (ha : Sx a = true) (h : SeatOK ws a l = true) : Ev (fun k => impl_MomentAbout.f k (rows ws l) 30) (mo ws l, true) := by
  have hr := row_ok hw ha h
  have hl := rows_len (seatV ha h).1
  have h12 := (wsV hw).1
  have key := PureMoment.MomentAbout_ev (rows ws l) (by omega) 30
  have hp : PureRow.Pl 30 = true := rfl
  rw [hr, hp, mom_rows] at key
  exact key
end Go.Proofs.Ytkedfmmmjopofaa.PureSeatX
