/- The plain law of FnExactTiltRow. No conditions. -/
import Derived.Test.YtijkhhmbhfllkaaStatFnExactTiltRow
import Derived.Test.YtijkhhmbhfllkaaSeatRows
import Derived.Test.YtijkhhmbhfllkaaArms
import Derived.Test.YtijkhhmbhfllkaaInts
import Derived.Test.YtijkhhmbhfllkaaMarkInts
namespace Go.Proofs.Ytijkhhmbhfllkaa.fnExactTiltRow
open Go.RowKit Go.Proofs.Ytijkhhmbhfllkaa.XAll Go.Proofs.Ytijkhhmbhfllkaa.Plain Go.Proofs.Ytijkhhmbhfllkaa.PureSeats Go.Proofs.Ytijkhhmbhfllkaa.PureArms Go.Proofs.Ytijkhhmbhfllkaa.PureSeatRows Go.Proofs.Ytijkhhmbhfllkaa.PureMarkLoads Go.Proofs.Ytijkhhmbhfllkaa.PureMarkInts Go.Proofs.Ytijkhhmbhfllkaa.PureInts Go.Proofs.YtijkhhmbhfllkaaW.PrintWords Go.Proofs.YtijkhhmbhfllkaaW.PrintLast Go.Proofs.YtijkhhmbhfllkaaW.PrintMore
set_option linter.unusedVariables false
def Sg (x : Int) : Bool := Has [1, -1] x
theorem Sg_eq (x : Int) : Sg x = decide (x = 1 ∨ x = -1) := by
  unfold Sg Has
  by_cases h1 : x = 1
  · subst h1; rfl
  · by_cases h2 : x = -1
    · subst h2; rfl
    · have e1 : ¬ (1 : Int) = x := fun e => h1 e.symm
      have e2 : ¬ (-1 : Int) = x := fun e => h2 e.symm
      simp [h1, h2, e1, e2]
theorem l9Are_l0 (l : List Int) (hn : l.length ≤ 140737488355328) (c : Int) : ∀ i, i ≤ l.length → Ev (fun k => spec_l9Are.l0 k l c (i : Int)) ((l.drop i).all Sg && ((l.length : Int) == c)) := by
  refine downTo l.length ?_ ?_
  · refine Ev.step (fun k => by simp only [spec_l9Are.l0]; exact rfl) (ifn (by omega) (done ?_))
    simp
  · intro i hi ih
    refine Ev.step (fun k => by simp only [spec_l9Are.l0]; exact rfl) (ifp (by omega) (ifp (by omega) ?_))
    rw [rd_lt hi, drop_cons hi, List.all_cons]
    refine Ev.bind (l1Has_ev [1, -1] (by simp) l[i]) ?_
    show Ev (fun k => if Sg l[i] = true then _ else _) _
    cases Sg l[i] with
    | false => exact ifn Bool.false_ne_true (done rfl)
    | true => refine ifp rfl ?_; rw [wrapS hi hn, Bool.true_and]; exact ih
theorem loops (ws ar ss : List Int) (hw : ws.length ≤ 12) (ha : ar.length = ws.length) (hs : ss.length = ws.length) (hg : ∀ x ∈ ss, Sg x = true) : ∀ i, i ≤ ws.length → ∀ xs : List Int, xs.length = i → ∃ r : List Ld × Bool, Ev (fun k => spec_TiltRow.l0 k ws ar ss xs (i : Int)) r ∧ Ev (fun k => impl_TiltRow.l0 k ws ar xs ss (ss.length : Int) (i : Int)) r ∧ r.1.length ≤ 1048576 := by
  refine downTo ws.length ?_ ?_
  · intro xs hx
    obtain ⟨r, f1, f2, f3⟩ := row_ev ws xs (by omega) hx
    exact ⟨(r, true), Ev.step (fun k => by simp only [spec_TiltRow.l0]; exact rfl) (ifn (by omega) (Ev.bind f1 (done rfl))), Ev.step (fun k => by simp only [impl_TiltRow.l0]; exact rfl) (ifn (by omega) (Ev.bind f2 (done rfl))), by show r.length ≤ 1048576; omega⟩
  · intro i hi ih xs hx
    have hi0 : 0 ≤ (i : Int) := by omega
    have hia : (i : Int) < (ar.length : Int) := by omega
    have his : (i : Int) < (ss.length : Int) := by omega
    have hxl : xs.length < 17592186044416 := by omega
    obtain ⟨r, e1, e2, e3⟩ := ih (xs ++ [wrap64 (30 + wrap64 (rd ss (i : Int) * rd ar (i : Int)))]) (by simp [hx])
    have hsi : i < ss.length := by omega
    have hx1 := hg ss[i] (List.getElem_mem hsi)
    rw [Sg_eq, decide_eq_true_eq, ← rd_lt hsi] at hx1
    refine ⟨r, Ev.step (fun k => by simp only [spec_TiltRow.l0]; exact rfl) (ifp hia (ifp hi0 (ifp his (ifp hxl ?_)))), Ev.step (fun k => by simp only [impl_TiltRow.l0]; exact rfl) (ifp his (ifp hi0 (ifp his ?_))), e3⟩
    · rw [wrapS hi (by omega)]; exact e1
    · rw [← wrapS hi (by omega)] at e2
      rcases hx1 with hx1 | hx1
      · exact ifp hx1 (ifp hia (ifp hxl e2))
      · exact ifn (by omega) (ifp hx1 (ifp hia (ifp hxl e2)))
theorem bad (ws ar ss : List Int) (hw : ws.length ≤ 12) (ha : ar.length = ws.length) (hs : ss.length = ws.length) : ∀ i, i ≤ ws.length → (ss.drop i).all Sg = false → ∀ xs : List Int, xs.length = i → Ev (fun k => impl_TiltRow.l0 k ws ar xs ss (ss.length : Int) (i : Int)) ([], false) := by
  refine downTo ws.length ?_ ?_
  · intro h
    rw [← hs, List.drop_length] at h
    exact absurd h (by simp)
  · intro i hi ih h xs hx
    have hi0 : 0 ≤ (i : Int) := by omega
    have hia : (i : Int) < (ar.length : Int) := by omega
    have his : (i : Int) < (ss.length : Int) := by omega
    have hxl : xs.length < 17592186044416 := by omega
    have hsi : i < ss.length := by omega
    rw [drop_cons hsi, List.all_cons] at h
    refine Ev.step (fun k => by simp only [impl_TiltRow.l0]; exact rfl) (ifp his (ifp hi0 (ifp his ?_)))
    by_cases hg : Sg ss[i] = true
    · rw [hg, Bool.true_and] at h
      rw [Sg_eq, decide_eq_true_eq, ← rd_lt hsi] at hg
      have e2 := ih h (xs ++ [wrap64 (30 + wrap64 (rd ss (i : Int) * rd ar (i : Int)))]) (by simp [hx])
      rw [← wrapS hi (by omega)] at e2
      rcases hg with hg | hg
      · exact ifp hg (ifp hia (ifp hxl e2))
      · exact ifn (by omega) (ifp hg (ifp hia (ifp hxl e2)))
    · rw [Sg_eq, decide_eq_true_eq, ← rd_lt hsi] at hg
      exact ifn (fun e => hg (Or.inl e)) (ifn (fun e => hg (Or.inr e)) (done rfl))
theorem both (ws : List Int) (hn : ws.length ≤ 1048576) (ar : List Int) (hl : ar.length ≤ 1048576) (ss : List Int) (hs : ss.length ≤ 1048576) : ∃ r : List Ld × Bool, Ev (fun k => spec_TiltRow.f k ws ar ss) r ∧ Ev (fun k => impl_TiltRow.f k ws ar ss) r ∧ r.1.length ≤ 1048576 := by
  have h1 := l9Arms_ev ws (by omega) ar (by omega)
  have h2 := areArms_ev ws (by omega) ar (by omega)
  have h3 := l9Are_l0 ss (by omega) (ws.length : Int) 0 (Nat.zero_le _)
  rw [List.drop_zero] at h3
  have no1 : Ev (fun k => spec_TiltRow.j0 k ws ar ss true) ([], false) := Ev.step (fun k => by simp only [spec_TiltRow.j0]; exact rfl) (ifp (Eq.refl true) (done rfl))
  have no2 : Ev (fun k => impl_TiltRow.j0 k ws ar ss true) ([], false) := Ev.step (fun k => by simp only [impl_TiltRow.j0]; exact rfl) (ifp (Eq.refl true) (done rfl))
  unfold spec_TiltRow.f impl_TiltRow.f spec_l9Are.f
  cases hr : ArmsOK ws ar with
  | false =>
    rw [hr] at h1 h2
    exact ⟨([], false), Ev.bind h1 (ifn Bool.false_ne_true no1), Ev.bind h2 (ifn Bool.false_ne_true no2), by simp⟩
  | true =>
    rw [hr] at h1 h2
    obtain ⟨v1, v2, v3, v4⟩ := armsV hr
    by_cases hlen : (ss.length : Int) = (ws.length : Int)
    · have e1 : ((ss.length : Int) == (ws.length : Int)) = true := beq_iff_eq.2 hlen
      have e2 : ((ss.length : Int) != (ws.length : Int)) = false := by rw [bne, e1]; rfl
      rw [e1, Bool.and_true] at h3
      cases hg : ss.all Sg with
      | false =>
        rw [hg] at h3
        have hb := bad ws ar ss v2 v1 (by omega) 0 (Nat.zero_le _) (by rw [List.drop_zero]; exact hg) [] rfl
        refine ⟨([], false), Ev.bind h1 (ifp (Eq.refl true) (Ev.bind h3 no1)), Ev.bind h2 (ifp (Eq.refl true) ?_), by simp⟩
        rw [e2]
        exact Ev.step (fun k => by simp only [impl_TiltRow.j0]; exact rfl) (ifn Bool.false_ne_true hb)
      | true =>
        rw [hg] at h3
        obtain ⟨r, f1, f2, f3⟩ := loops ws ar ss v2 v1 (by omega) (by simpa using hg) 0 (Nat.zero_le _) [] rfl
        have g1 : Ev (fun k => spec_TiltRow.j0 k ws ar ss (!true)) r := Ev.step (fun k => by simp only [spec_TiltRow.j0]; exact rfl) (ifn Bool.false_ne_true f1)
        refine ⟨r, Ev.bind h1 (ifp (Eq.refl true) (Ev.bind h3 g1)), Ev.bind h2 (ifp (Eq.refl true) ?_), f3⟩
        rw [e2]
        exact Ev.step (fun k => by simp only [impl_TiltRow.j0]; exact rfl) (ifn Bool.false_ne_true f2)
    · have e1 : ((ss.length : Int) == (ws.length : Int)) = false := beq_eq_false_iff_ne.2 hlen
      have e2 : ((ss.length : Int) != (ws.length : Int)) = true := by rw [bne, e1]; rfl
      rw [e1, Bool.and_false] at h3
      refine ⟨([], false), Ev.bind h1 (ifp (Eq.refl true) (Ev.bind h3 no1)), Ev.bind h2 (ifp (Eq.refl true) ?_), by simp⟩
      rw [e2]; exact no2
theorem pure : Pure := by
  intro l m s hl _ hm _ hs _
  refine Ev.rounds ?_
  unfold laws_FnExactTiltRow.f
  refine ifc (fun _ => done rfl) fun hn => ifc (fun _ => done rfl) fun hn2 => ifc (fun _ => done rfl) fun hn3 => ?_
  have t1 := toIntS_ev l (by omega)
  have t2 := toIntS_ev m (by omega)
  have t3 := toIntS_ev s (by omega)
  obtain ⟨r, e1, e2, hr⟩ := both l (by omega) m (by omega) s (by omega)
  have q := eqLoadS_ev r.1 (by omega)
  obtain ⟨R1, m1, _, _⟩ := markIntS_ev l (by omega) 1 (by omega) (by omega)
  obtain ⟨R2, m2, _, _⟩ := markIntS_ev m (by omega) (1 + (l.length : Int)) (by omega) (by omega)
  obtain ⟨R4, m4, _, _⟩ := markIntS_ev s (by omega) (1 + (l.length : Int) + (m.length : Int)) (by omega) (by omega)
  obtain ⟨R3, m3, m3l, m3r⟩ := markLoadS_ev r.1 hr 1 (by omega) (by omega)
  have h3 := heldLoadS_ev R3 r.1.length m3l hr 1 (by omega) (by omega) m3r
  have hneg : ¬ (1 + ((2 * r.1.length : Nat) : Int)) < 0 := by omega
  have hneg2 : ¬ (1 + (l.length : Int) + (m.length : Int) + (s.length : Int)) < 0 := by omega
  have last : Ev (fun k => laws_FnExactTiltRow.j2 k R3 (1 + ((2 * r.1.length : Nat) : Int)) (r.2 != r.2)) true := by
    refine Ev.step (fun k => by simp only [laws_FnExactTiltRow.j2]; exact rfl) (ifn (by simp) (Ev.bind h3 (ifn hneg ?_)))
    exact ifp rfl (done rfl)
  have mid : Ev (fun k => laws_FnExactTiltRow.j1 k l m s r.1 r.2 r.1 (r.2 != r.2)) true := by
    refine Ev.step (fun k => by simp only [laws_FnExactTiltRow.j1]; exact rfl) (ifn (by simp) (Ev.bind m3 (Ev.bind h3 (ifn hneg (ifp rfl (Ev.bind t1 (Ev.bind t2 (Ev.bind t3 (Ev.bind e2 (Ev.bind q ?_))))))))))
    exact ifp (Eq.refl true) last
  refine Ev.bind t1 (Ev.bind t2 (Ev.bind t3 (Ev.bind e1 (Ev.bind t1 (Ev.bind t2 (Ev.bind t3 (Ev.bind e2 (Ev.bind q (ifp (Eq.refl true) ?_)))))))))
  refine Ev.step (fun k => by simp only [laws_FnExactTiltRow.j0]; exact rfl) (ifn (by simp) (Ev.bind t1 (Ev.bind (eqIntS_ev l (by omega)) (ifp (Eq.refl true) (Ev.bind t2 (Ev.bind (eqIntS_ev m (by omega)) (ifp (Eq.refl true) (Ev.bind t3 (Ev.bind (eqIntS_ev s (by omega)) (ifp (Eq.refl true) (Ev.bind m1 (Ev.bind m2 (Ev.bind m4 (ifn hneg2 (Ev.bind q ?_)))))))))))))))
  exact ifp (Eq.refl true) mid
end Go.Proofs.Ytijkhhmbhfllkaa.fnExactTiltRow
