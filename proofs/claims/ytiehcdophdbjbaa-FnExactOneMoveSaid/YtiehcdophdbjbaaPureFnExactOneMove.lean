/- The plain law of FnExactOneMove: the program moves the load that the reference moves. No conditions. -/
import Derived.Test.YtiehcdophdbjbaaStatFnExactOneMove
import Derived.Test.YtiehcdophdbjbaaMoment
namespace Go.Proofs.Ytiehcdophdbjbaa.fnExactOneMove
open Go.RowKit Go.Proofs.Ytiehcdophdbjbaa.XAll Go.Proofs.Ytiehcdophdbjbaa.Plain Go.Proofs.Ytiehcdophdbjbaa.PureRow Go.Proofs.Ytiehcdophdbjbaa.PureMoment Go.Proofs.YtiehcdophdbjbaaW.PrintWords Go.Proofs.YtiehcdophdbjbaaW.PrintLast Go.Proofs.YtiehcdophdbjbaaW.PrintMore
set_option linter.unusedVariables false
theorem loops (l : List Ld) (h : RowV l) (p : Int) (hp : 0 ≤ p ∧ p ≤ 60) : ∀ i, i ≤ l.length → ∃ r, Ev (fun k => spec_OneMove.l0 k l p (i : Int)) r ∧ Ev (fun k => impl_OneMove.l0 k (mom p l) l (l.length : Int) (i : Int)) r := by
  have hn := h.n
  refine downTo l.length ?_ ?_
  · exact ⟨(0, 0, false), Ev.step (fun k => by simp only [spec_OneMove.l0]; exact rfl) (ifn (by omega) (done rfl)), Ev.step (fun k => by simp only [impl_OneMove.l0]; exact rfl) (ifn (by omega) (done rfl))⟩
  · rintro i hi ⟨r, e1, e2⟩
    have hx := h.each l[i] (List.getElem_mem hi)
    have hm := l2Moment_ev h hp
    have hw : ¬ (rd_T47 l (i : Int)).f1 = 0 := by rw [rdL hi]; omega
    have hi0 : 0 ≤ (i : Int) := by omega
    have hil : (i : Int) < (l.length : Int) := by omega
    have e1' : Ev (fun k => spec_OneMove.l0 k l p (wrap64 ((i : Int) + 1))) r := by rw [wrapS hi (by omega)]; exact e1
    have e2' : Ev (fun k => impl_OneMove.l0 k (mom p l) l (l.length : Int) (wrap64 ((i : Int) + 1))) r := by rw [wrapS hi (by omega)]; exact e2
    by_cases ht : Int.tmod (mom p l) (rd_T47 l (i : Int)).f1 = 0
    · have hq := l2In_eq (wrap64 (((rd_T47 l (i : Int)).f0) - (wrap64 (Int.tdiv (mom p l) ((rd_T47 l (i : Int)).f1)))))
      have hq2 := isPlace_eq (wrap64 (((rd_T47 l (i : Int)).f0) - (wrap64 (Int.tdiv (mom p l) ((rd_T47 l (i : Int)).f1)))))
      cases hb : Pl (wrap64 (((rd_T47 l (i : Int)).f0) - (wrap64 (Int.tdiv (mom p l) ((rd_T47 l (i : Int)).f1))))) with
      | true =>
        rw [hb] at hq hq2
        refine ⟨((i : Int), wrap64 (((rd_T47 l (i : Int)).f0) - (wrap64 (Int.tdiv (mom p l) ((rd_T47 l (i : Int)).f1)))), true), Ev.step (fun k => by simp only [spec_OneMove.l0]; exact rfl) ?_, Ev.step (fun k => by simp only [impl_OneMove.l0]; exact rfl) ?_⟩
        · refine ifp hil (Ev.bind hm (ifp hi0 (ifn hw (ifp ht (somb hq ?_)))))
          exact ifp (Eq.refl true) (done rfl)
        · refine ifp hil (ifp hi0 (ifp hil (ifn hw (ifp ht (somb hq2 ?_)))))
          exact ifp (Eq.refl true) (done rfl)
      | false =>
        rw [hb] at hq hq2
        exact ⟨r, Ev.step (fun k => by simp only [spec_OneMove.l0]; exact rfl) (ifp hil (Ev.bind hm (ifp hi0 (ifn hw (ifp ht (somb hq (ifn Bool.false_ne_true e1'))))))), Ev.step (fun k => by simp only [impl_OneMove.l0]; exact rfl) (ifp hil (ifp hi0 (ifp hil (ifn hw (ifp ht (somb hq2 (ifn Bool.false_ne_true e2')))))))⟩
    · exact ⟨r, Ev.step (fun k => by simp only [spec_OneMove.l0]; exact rfl) (ifp hil (Ev.bind hm (ifp hi0 (ifn hw (ifn ht e1'))))), Ev.step (fun k => by simp only [impl_OneMove.l0]; exact rfl) (ifp hil (ifp hi0 (ifp hil (ifn hw (ifn ht e2')))))⟩
theorem both (l : List Ld) (hn : l.length ≤ 140737488355328) (p : Int) : ∃ r, Ev (fun k => spec_OneMove.f k l p) r ∧ Ev (fun k => impl_OneMove.f k l p) r := by
  have h1 := l2Row_ev l hn
  have h2 := offMoment_ev l hn p
  have no : Ev (fun k => spec_OneMove.j0 k l p true) (0, 0, false) := Ev.step (fun k => by simp only [spec_OneMove.j0]; exact rfl) (ifp (Eq.refl true) (done rfl))
  unfold spec_OneMove.f impl_OneMove.f
  cases hr : RowOK l with
  | false =>
    rw [hr] at h1 h2
    exact ⟨(0, 0, false), Ev.bind h1 (ifn Bool.false_ne_true no), Ev.bind h2 (ifn Bool.false_ne_true (done rfl))⟩
  | true =>
    cases hp : Pl p with
    | false =>
      rw [hr] at h1
      rw [hr, hp] at h2
      exact ⟨(0, 0, false), Ev.bind h1 (ifp (Eq.refl true) (somb (l2In_eq p) (ifn (by rw [hp]; exact Bool.false_ne_true) no))), Ev.bind h2 (ifn Bool.false_ne_true (done rfl))⟩
    | true =>
      rw [hr] at h1
      rw [hr, hp] at h2
      have hm := l2Moment_ev (rowV hr) (plV hp)
      by_cases h0 : mom p l = 0
      · rw [h0] at hm h2
        exact ⟨(0, 0, false), Ev.bind h1 (ifp (Eq.refl true) (somb (l2In_eq p) (ifp hp (Ev.bind hm no)))), Ev.bind h2 (ifn Bool.false_ne_true (done rfl))⟩
      · obtain ⟨r, e1, e2⟩ := loops l (rowV hr) p (plV hp) 0 (Nat.zero_le _)
        have hb : (mom p l == 0) = false := beq_eq_false_iff_ne.2 h0
        have hb2 : (mom p l != 0) = true := bne_iff_ne.2 h0
        have go : Ev (fun k => spec_OneMove.j0 k l p (mom p l == 0)) r := by
          rw [hb]
          exact Ev.step (fun k => by simp only [spec_OneMove.j0]; exact rfl) (ifn Bool.false_ne_true e1)
        exact ⟨r, Ev.bind h1 (ifp (Eq.refl true) (somb (l2In_eq p) (ifp hp (Ev.bind hm go)))), Ev.bind h2 (ifp hb2 e2)⟩
theorem pure : Pure := by
  intro l p hl _ _
  obtain ⟨t, ht, hlen⟩ := szLoadS_eq l hl
  refine Ev.rounds ?_
  unfold laws_FnExactOneMove.f
  refine somb ht (ifc (fun _ => done rfl) fun hneg => ?_)
  have hm := hlen hneg
  have hto := toLoadS_ev l (by omega)
  have hcl : (l.map cv).length ≤ 140737488355328 := by rw [List.length_map]; omega
  obtain ⟨r, e1, e2⟩ := both (l.map cv) hcl p
  refine Ev.bind hto (Ev.bind e1 (Ev.bind hto (Ev.bind e2 (ifp (Eq.refl r.1) (ifp (Eq.refl r.2.1) ?_)))))
  refine Ev.step (fun k => by simp only [laws_FnExactOneMove.j0]; exact rfl) (ifn (by simp) (Ev.bind hto (Ev.bind (eqLoadS_ev _ hcl) ?_)))
  exact ifp (Eq.refl true) (done rfl)
end Go.Proofs.Ytiehcdophdbjbaa.fnExactOneMove
