/- TiltRow, in the program and in the reference alike, and what the row is. No conditions beyond those of the lemmas' own hypotheses. -/
import Derived.Test.YtkedfmmmjopofaaTilts
import Derived.Test.YtkedfmmmjopofaaMoment
import Derived.Test.YtkedfmmmjopofaaXTix16
import Derived.Test.YtkedfmmmjopofaaXTix13
import Derived.Test.YtkedfmmmjopofaaXTix17
import Derived.Test.YtkedfmmmjopofaaXTix14
namespace Go.Proofs.Ytkedfmmmjopofaa.PureTiltRows
open Go.RowKit Go.Proofs.Ytkedfmmmjopofaa.XTi Go.Proofs.Ytkedfmmmjopofaa.Plain Go.Proofs.Ytkedfmmmjopofaa.PureSeats Go.Proofs.Ytkedfmmmjopofaa.PureArms Go.Proofs.YtkedfmmmjopofaaW.PrintWords Go.Proofs.YtkedfmmmjopofaaW.PrintLast Go.Proofs.YtkedfmmmjopofaaW.PrintMore
set_option linter.unusedVariables false
abbrev Ld := S73
/-- The row of weights at places. -/
def rows (ws ps : List Int) : List Ld := List.zipWith (fun w p => (⟨p, w⟩ : Ld)) ws ps
theorem rows_len {ws ps : List Int} (h : ps.length = ws.length) : (rows ws ps).length = ws.length := by unfold rows; rw [List.length_zipWith]; omega
theorem rows_at {ws ps : List Int} {i : Nat} (h1 : i < ws.length) (h2 : i < ps.length) (h3 : i < (rows ws ps).length) : (rows ws ps)[i] = ⟨ps[i], ws[i]⟩ := List.getElem_zipWith ..
theorem row_l0 (ws ps : List Int) (hn : ws.length ≤ 1048576) (hp : ps.length = ws.length) : ∀ i, i ≤ ws.length → ∀ xs : List Ld, xs.length = i → Ev (fun k => spec_l9Row.l0 k ws ps xs (i : Int)) (xs ++ (rows ws ps).drop i) ∧ Ev (fun k => impl_rowOf.l0 k ps xs ws (ws.length : Int) (i : Int)) (xs ++ (rows ws ps).drop i) := by
  have hl := rows_len hp
  refine downTo ws.length ?_ ?_
  · intro xs hx
    have e : xs = xs ++ (rows ws ps).drop ws.length := by rw [← hl, List.drop_length, List.append_nil]
    exact ⟨Ev.step (fun k => by simp only [spec_l9Row.l0]; exact rfl) (ifn (by omega) (done e)), Ev.step (fun k => by simp only [impl_rowOf.l0]; exact rfl) (ifn (by omega) (done e))⟩
  · intro i hi ih xs hx
    have hi0 : 0 ≤ (i : Int) := by omega
    have hil : (i : Int) < (ws.length : Int) := by omega
    have hip : (i : Int) < (ps.length : Int) := by omega
    have hip2 : i < ps.length := by omega
    have hir : i < (rows ws ps).length := by omega
    have hxl : xs.length < 8796093022208 := by omega
    obtain ⟨e1, e2⟩ := ih (xs ++ [⟨rd ps (i : Int), rd ws (i : Int)⟩]) (by simp [hx])
    have e : xs ++ (rows ws ps).drop i = xs ++ [(⟨rd ps (i : Int), rd ws (i : Int)⟩ : Ld)] ++ (rows ws ps).drop (i + 1) := by
      rw [drop_cons hir, rows_at hi hip2 hir, rd_lt hi, rd_lt hip2, List.append_assoc]; rfl
    rw [e]
    rw [← wrapS hi (by omega)] at e1 e2
    exact ⟨Ev.step (fun k => by simp only [spec_l9Row.l0]; exact rfl) (ifp hil (ifp hi0 (ifp hip (ifp hxl e1)))), Ev.step (fun k => by simp only [impl_rowOf.l0]; exact rfl) (ifp hil (ifp hi0 (ifp hil (ifp hip (ifp hxl e2)))))⟩
theorem row_ev (ws ps : List Int) (hn : ws.length ≤ 1048576) (hp : ps.length = ws.length) : Ev (fun k => spec_l9Row.f k ws ps) (rows ws ps) ∧ Ev (fun k => impl_rowOf.f k ws ps) (rows ws ps) := row_l0 ws ps hn hp 0 (Nat.zero_le _) [] rfl
def Sg (x : Int) : Bool := Has [1, -1] x
theorem Sg_eq (x : Int) : Sg x = decide (x = 1 ∨ x = -1) := by
  unfold Sg Has
  by_cases h1 : x = 1
  · subst h1; rfl
  · by_cases h2 : x = -1
    · subst h2; rfl
    · have e1 : ¬ (1 : Int) = x := fun e => h1 e.symm
      have e2 : ¬ (-1 : Int) = x := fun e => h2 e.symm
      simp [h1, h2, e1, e2]
theorem l9Are_l0 (l : List Int) (hn : l.length ≤ 140737488355328) (c : Int) : ∀ i, i ≤ l.length → Ev (fun k => spec_l9Are.l0 k l c (i : Int)) ((l.drop i).all Sg && ((l.length : Int) == c)) := by
  refine downTo l.length ?_ ?_
  · refine Ev.step (fun k => by simp only [spec_l9Are.l0]; exact rfl) (ifn (by omega) (done ?_))
    simp
  · intro i hi ih
    refine Ev.step (fun k => by simp only [spec_l9Are.l0]; exact rfl) (ifp (by omega) (ifp (by omega) ?_))
    rw [rd_lt hi, drop_cons hi, List.all_cons]
    refine Ev.bind (l1Has_ev [1, -1] (by simp) l[i]) ?_
    show Ev (fun k => if Sg l[i] = true then _ else _) _
    cases Sg l[i] with
    | false => exact ifn Bool.false_ne_true (done rfl)
    | true => refine ifp rfl ?_; rw [wrapS hi hn, Bool.true_and]; exact ih
/-- Where the arms come to be. -/
def places (ar ss : List Int) : List Int := List.zipWith (fun a s => 30 + s * a) ar ss
theorem places_at {ar ss : List Int} {i : Nat} (h1 : i < ar.length) (h2 : i < ss.length) (h3 : i < (places ar ss).length) : (places ar ss)[i] = 30 + ss[i] * ar[i] := List.getElem_zipWith ..
theorem place_eq {a s : Int} (ha : 1 ≤ a ∧ a ≤ 6) (hs : s = 1 ∨ s = -1) : wrap64 (30 + wrap64 (s * a)) = 30 + s * a := by
  rcases hs with rfl | rfl
  · rw [Int.one_mul, w64 (x := a) (by omega) (by omega), w64 (by omega) (by omega)]
  · rw [Int.neg_mul, Int.one_mul, w64 (x := -a) (by omega) (by omega), w64 (by omega) (by omega)]
theorem loops (ws ar ss : List Int) (hw : ws.length ≤ 12) (ha : ar.length = ws.length) (hs : ss.length = ws.length) (hA : ∀ x ∈ ar, 1 ≤ x ∧ x ≤ 6) (hg : ∀ x ∈ ss, Sg x = true) : ∀ i, i ≤ ws.length → ∀ xs : List Int, xs = (places ar ss).take i → Ev (fun k => spec_TiltRow.l0 k ws ar ss xs (i : Int)) (rows ws (places ar ss), true) ∧ Ev (fun k => impl_TiltRow.l0 k ws ar xs ss (ss.length : Int) (i : Int)) (rows ws (places ar ss), true) := by
  have hpl : (places ar ss).length = ws.length := by unfold places; rw [List.length_zipWith]; omega
  refine downTo ws.length ?_ ?_
  · intro xs hx
    rw [← hpl, List.take_length] at hx
    subst hx
    obtain ⟨f1, f2⟩ := row_ev ws (places ar ss) (by omega) hpl
    exact ⟨Ev.step (fun k => by simp only [spec_TiltRow.l0]; exact rfl) (ifn (by omega) (Ev.bind f1 (done rfl))), Ev.step (fun k => by simp only [impl_TiltRow.l0]; exact rfl) (ifn (by omega) (Ev.bind f2 (done rfl)))⟩
  · intro i hi ih xs hx
    have hi0 : 0 ≤ (i : Int) := by omega
    have hia : (i : Int) < (ar.length : Int) := by omega
    have his : (i : Int) < (ss.length : Int) := by omega
    have hxl : xs.length < 17592186044416 := by rw [hx, List.length_take]; omega
    have hsi : i < ss.length := by omega
    have hai : i < ar.length := by omega
    have hpi : i < (places ar ss).length := by omega
    have hx1 := hg ss[i] (List.getElem_mem hsi)
    rw [Sg_eq, decide_eq_true_eq] at hx1
    obtain ⟨e1, e2⟩ := ih (xs ++ [wrap64 (30 + wrap64 (rd ss (i : Int) * rd ar (i : Int)))]) (by rw [rd_lt hsi, rd_lt hai, place_eq (hA _ (List.getElem_mem hai)) hx1, hx, take_succ hpi, places_at hai hsi hpi])
    rw [← rd_lt hsi] at hx1
    rw [← wrapS hi (by omega)] at e1 e2
    refine ⟨Ev.step (fun k => by simp only [spec_TiltRow.l0]; exact rfl) (ifp hia (ifp hi0 (ifp his (ifp hxl e1)))), Ev.step (fun k => by simp only [impl_TiltRow.l0]; exact rfl) (ifp his (ifp hi0 (ifp his ?_)))⟩
    rcases hx1 with hx1 | hx1
    · exact ifp hx1 (ifp hia (ifp hxl e2))
    · exact ifn (by omega) (ifp hx1 (ifp hia (ifp hxl e2)))
theorem bad (ws ar ss : List Int) (hw : ws.length ≤ 12) (ha : ar.length = ws.length) (hs : ss.length = ws.length) : ∀ i, i ≤ ws.length → (ss.drop i).all Sg = false → ∀ xs : List Int, xs.length = i → Ev (fun k => impl_TiltRow.l0 k ws ar xs ss (ss.length : Int) (i : Int)) ([], false) := by
  refine downTo ws.length ?_ ?_
  · intro h
    rw [← hs, List.drop_length] at h
    exact absurd h (by simp)
  · intro i hi ih h xs hx
    have hi0 : 0 ≤ (i : Int) := by omega
    have hia : (i : Int) < (ar.length : Int) := by omega
    have his : (i : Int) < (ss.length : Int) := by omega
    have hxl : xs.length < 17592186044416 := by omega
    have hsi : i < ss.length := by omega
    rw [drop_cons hsi, List.all_cons] at h
    refine Ev.step (fun k => by simp only [impl_TiltRow.l0]; exact rfl) (ifp his (ifp hi0 (ifp his ?_)))
    by_cases hg : Sg ss[i] = true
    · rw [hg, Bool.true_and] at h
      rw [Sg_eq, decide_eq_true_eq, ← rd_lt hsi] at hg
      have e2 := ih h (xs ++ [wrap64 (30 + wrap64 (rd ss (i : Int) * rd ar (i : Int)))]) (by simp [hx])
      rw [← wrapS hi (by omega)] at e2
      rcases hg with hg | hg
      · exact ifp hg (ifp hia (ifp hxl e2))
      · exact ifn (by omega) (ifp hg (ifp hia (ifp hxl e2)))
    · rw [Sg_eq, decide_eq_true_eq, ← rd_lt hsi] at hg
      exact ifn (fun e => hg (Or.inl e)) (ifn (fun e => hg (Or.inr e)) (done rfl))
/-- What both return. -/
def Res (ws ar ss : List Int) : List Ld × Bool := if ArmsOK ws ar = true ∧ ss.length = ws.length ∧ ss.all Sg = true then (rows ws (places ar ss), true) else ([], false)
theorem both (ws : List Int) (hn : ws.length ≤ 1048576) (ar : List Int) (hl : ar.length ≤ 1048576) (ss : List Int) (hs : ss.length ≤ 1048576) : Ev (fun k => spec_TiltRow.f k ws ar ss) (Res ws ar ss) ∧ Ev (fun k => impl_TiltRow.f k ws ar ss) (Res ws ar ss) := by
  have h1 := l9Arms_ev ws (by omega) ar (by omega)
  have h2 := areArms_ev ws (by omega) ar (by omega)
  have h3 := l9Are_l0 ss (by omega) (ws.length : Int) 0 (Nat.zero_le _)
  rw [List.drop_zero] at h3
  have no1 : Ev (fun k => spec_TiltRow.j0 k ws ar ss true) ([], false) := Ev.step (fun k => by simp only [spec_TiltRow.j0]; exact rfl) (ifp (Eq.refl true) (done rfl))
  have no2 : Ev (fun k => impl_TiltRow.j0 k ws ar ss true) ([], false) := Ev.step (fun k => by simp only [impl_TiltRow.j0]; exact rfl) (ifp (Eq.refl true) (done rfl))
  unfold spec_TiltRow.f impl_TiltRow.f spec_l9Are.f Res
  cases hr : ArmsOK ws ar with
  | false =>
    rw [hr] at h1 h2
    rw [if_neg (fun q => Bool.false_ne_true q.1)]
    exact ⟨Ev.bind h1 (ifn Bool.false_ne_true no1), Ev.bind h2 (ifn Bool.false_ne_true no2)⟩
  | true =>
    rw [hr] at h1 h2
    obtain ⟨v1, v2, v3, v4⟩ := armsV hr
    by_cases hlen : ss.length = ws.length
    · have hlen' : (ss.length : Int) = (ws.length : Int) := by omega
      have e1 : ((ss.length : Int) == (ws.length : Int)) = true := beq_iff_eq.2 hlen'
      have e2 : ((ss.length : Int) != (ws.length : Int)) = false := by rw [bne, e1]; rfl
      rw [e1, Bool.and_true] at h3
      cases hg : ss.all Sg with
      | false =>
        rw [hg] at h3
        rw [if_neg (fun q => Bool.false_ne_true q.2.2)]
        have hb := bad ws ar ss v2 v1 (by omega) 0 (Nat.zero_le _) (by rw [List.drop_zero]; exact hg) [] rfl
        refine ⟨Ev.bind h1 (ifp (Eq.refl true) (Ev.bind h3 no1)), Ev.bind h2 (ifp (Eq.refl true) ?_)⟩
        rw [e2]
        exact Ev.step (fun k => by simp only [impl_TiltRow.j0]; exact rfl) (ifn Bool.false_ne_true hb)
      | true =>
        rw [hg] at h3
        rw [if_pos ⟨rfl, hlen, rfl⟩]
        obtain ⟨f1, f2⟩ := loops ws ar ss v2 v1 (by omega) v3 (by simpa using hg) 0 (Nat.zero_le _) [] rfl
        have g1 : Ev (fun k => spec_TiltRow.j0 k ws ar ss (!true)) (rows ws (places ar ss), true) := Ev.step (fun k => by simp only [spec_TiltRow.j0]; exact rfl) (ifn Bool.false_ne_true f1)
        refine ⟨Ev.bind h1 (ifp (Eq.refl true) (Ev.bind h3 g1)), Ev.bind h2 (ifp (Eq.refl true) ?_)⟩
        rw [e2]
        exact Ev.step (fun k => by simp only [impl_TiltRow.j0]; exact rfl) (ifn Bool.false_ne_true f2)
    · have hlen' : ¬ (ss.length : Int) = (ws.length : Int) := by omega
      have e1 : ((ss.length : Int) == (ws.length : Int)) = false := beq_eq_false_iff_ne.2 hlen'
      have e2 : ((ss.length : Int) != (ws.length : Int)) = true := by rw [bne, e1]; rfl
      rw [e1, Bool.and_false] at h3
      rw [if_neg (fun q => hlen q.2.1)]
      refine ⟨Ev.bind h1 (ifp (Eq.refl true) (Ev.bind h3 no1)), Ev.bind h2 (ifp (Eq.refl true) ?_)⟩
      rw [e2]; exact no2
/-- The moment of a tilt's row about the middle is the tilt's. -/
theorem mom_rows : ∀ ws ar ss : List Int, ar.length = ws.length → ss.length = ws.length → PureMoment.mom 30 (rows ws (places ar ss)) = PureTilts.mom ws ar ss := by
  intro ws
  induction ws with
  | nil => intro ar ss _ _; rfl
  | cons w ws ih =>
    intro ar ss h1 h2
    cases ar with
    | nil => simp at h1
    | cons a ar =>
      cases ss with
      | nil => simp at h2
      | cons s ss =>
        have e := ih ar ss (by simpa using h1) (by simpa using h2)
        show w * (30 + s * a - 30) + PureMoment.mom 30 (rows ws (places ar ss)) = w * a * s + PureTilts.mom ws ar ss
        rw [e, show 30 + s * a - 30 = s * a from by omega, Int.mul_comm s a, Int.mul_assoc]
theorem rows_ok : ∀ ws ar ss : List Int, (∀ x ∈ ws, 1 ≤ x ∧ x ≤ 99) → (∀ x ∈ ar, 1 ≤ x ∧ x ≤ 6) → (∀ x ∈ ss, x = 1 ∨ x = -1) → (rows ws (places ar ss)).all PureRow.LdOK = true := by
  intro ws
  induction ws with
  | nil => intro ar ss _ _ _; rfl
  | cons w ws ih =>
    intro ar ss h1 h2 h3
    cases ar with
    | nil => rfl
    | cons a ar =>
      cases ss with
      | nil => rfl
      | cons s ss =>
        have e := ih ar ss (fun x hx => h1 x (List.mem_cons_of_mem _ hx)) (fun x hx => h2 x (List.mem_cons_of_mem _ hx)) (fun x hx => h3 x (List.mem_cons_of_mem _ hx))
        have b1 := h1 w (List.mem_cons_self ..)
        have b2 := h2 a (List.mem_cons_self ..)
        have b3 := h3 s (List.mem_cons_self ..)
        show (PureRow.LdOK ⟨30 + s * a, w⟩ && (rows ws (places ar ss)).all PureRow.LdOK) = true
        rw [e, Bool.and_true]
        unfold PureRow.LdOK PureRow.Pl PureRow.Wt
        rw [decide_eq_true b1, Bool.and_true]
        refine decide_eq_true ?_
        show 0 ≤ 30 + s * a ∧ 30 + s * a ≤ 60
        rcases b3 with rfl | rfl
        · rw [Int.one_mul]; omega
        · rw [Int.neg_mul, Int.one_mul]; omega
/-- MomentAbout of a tilt's row. -/
theorem moment_row {ws ar ss : List Int} (o : PureTilts.Ok ws ar) (hs : ss.length = ws.length) (h : ∀ x ∈ ss, x = 1 ∨ x = -1) : Ev (fun k => impl_MomentAbout.f k (rows ws (places ar ss)) 30) (PureTilts.mom ws ar ss, true) := by
  have hpl : (places ar ss).length = ws.length := by unfold places; rw [List.length_zipWith]; have := o.la; omega
  have hl := rows_len hpl
  have lw := o.lw
  have key := PureMoment.MomentAbout_ev (rows ws (places ar ss)) (by omega) 30
  have hr : PureRow.RowOK (rows ws (places ar ss)) = true := by
    unfold PureRow.RowOK
    rw [rows_ok ws ar ss o.hw o.ha h, Bool.and_true]
    exact decide_eq_true (by omega)
  have hp : PureRow.Pl 30 = true := rfl
  rw [hr, hp, mom_rows ws ar ss o.la hs] at key
  exact key
end Go.Proofs.Ytkedfmmmjopofaa.PureTiltRows
