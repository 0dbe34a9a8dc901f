/- The plain law of FnExactOneSwap: the program exchanges the loads that the reference exchanges. No conditions. -/
import Derived.Test.YtiehcdophdbjbaaStatFnExactOneSwap
import Derived.Test.YtiehcdophdbjbaaMoment
namespace Go.Proofs.Ytiehcdophdbjbaa.fnExactOneSwap
open Go.RowKit Go.Proofs.Ytiehcdophdbjbaa.XAll Go.Proofs.Ytiehcdophdbjbaa.Plain Go.Proofs.Ytiehcdophdbjbaa.PureRow Go.Proofs.Ytiehcdophdbjbaa.PureMoment Go.Proofs.YtiehcdophdbjbaaW.PrintWords Go.Proofs.YtiehcdophdbjbaaW.PrintLast Go.Proofs.YtiehcdophdbjbaaW.PrintMore
set_option linter.unusedVariables false
theorem inner (l : List Ld) (h : RowV l) (p : Int) (hp : 0 ≤ p ∧ p ≤ 60) (i : Nat) (hi : i < l.length) (r : Int × Int × Bool) (e1 : Ev (fun k => spec_OneSwap.l0 k l p ((i + 1 : Nat) : Int)) r) (e2 : Ev (fun k => impl_OneSwap.l0 k l (mom p l) l (l.length : Int) ((i + 1 : Nat) : Int)) r) :
    ∀ j, j ≤ l.length → ∃ r, Ev (fun k => spec_OneSwap.l1 k l p (i : Int) (j : Int)) r ∧ Ev (fun k => impl_OneSwap.l1 k l (mom p l) (i : Int) (j : Int) l (l.length : Int) (i : Int) (rd_T47 l (i : Int)).f0 (rd_T47 l (i : Int)).f1) r := by
  have hn := h.n
  refine downTo l.length ?_ ?_
  · refine ⟨r, Ev.step (fun k => by simp only [spec_OneSwap.l1]; exact rfl) (ifn (by omega) ?_), Ev.step (fun k => by simp only [impl_OneSwap.l1]; exact rfl) (ifn (by omega) ?_)⟩
    · rw [wrapS hi (by omega)]; exact e1
    · rw [wrapS hi (by omega)]; exact e2
  · rintro j hj ⟨r2, f1, f2⟩
    have hm := l2Moment_ev h hp
    have hi0 : 0 ≤ (i : Int) := by omega
    have hil : (i : Int) < (l.length : Int) := by omega
    have hj0 : 0 ≤ (j : Int) := by omega
    have hjl : (j : Int) < (l.length : Int) := by omega
    by_cases hc : (wrap64 (mom p l + (wrap64 ((wrap64 (((rd_T47 l (i : Int)).f1) - ((rd_T47 l (j : Int)).f1))) * (wrap64 (((rd_T47 l (j : Int)).f0) - ((rd_T47 l (i : Int)).f0))))))) = 0
    · exact ⟨((i : Int), (j : Int), true), Ev.step (fun k => by simp only [spec_OneSwap.l1]; exact rfl) (ifp hjl (ifp hi0 (ifp hil (ifp hj0 (Ev.bind hm (ifp hc (done rfl))))))), Ev.step (fun k => by simp only [impl_OneSwap.l1]; exact rfl) (ifp hjl (ifp hj0 (ifp hc (done rfl))))⟩
    · refine ⟨r2, Ev.step (fun k => by simp only [spec_OneSwap.l1]; exact rfl) (ifp hjl (ifp hi0 (ifp hil (ifp hj0 (Ev.bind hm (ifn hc ?_)))))), Ev.step (fun k => by simp only [impl_OneSwap.l1]; exact rfl) (ifp hjl (ifp hj0 (ifn hc ?_)))⟩
      · rw [wrapS hj (by omega)]; exact f1
      · rw [wrapS hj (by omega)]; exact f2
theorem loops (l : List Ld) (h : RowV l) (p : Int) (hp : 0 ≤ p ∧ p ≤ 60) : ∀ i, i ≤ l.length → ∃ r, Ev (fun k => spec_OneSwap.l0 k l p (i : Int)) r ∧ Ev (fun k => impl_OneSwap.l0 k l (mom p l) l (l.length : Int) (i : Int)) r := by
  have hn := h.n
  refine downTo l.length ?_ ?_
  · exact ⟨(0, 0, false), Ev.step (fun k => by simp only [spec_OneSwap.l0]; exact rfl) (ifn (by omega) (done rfl)), Ev.step (fun k => by simp only [impl_OneSwap.l0]; exact rfl) (ifn (by omega) (done rfl))⟩
  · rintro i hi ⟨r, e1, e2⟩
    have hi0 : 0 ≤ (i : Int) := by omega
    have hil : (i : Int) < (l.length : Int) := by omega
    obtain ⟨r2, f1, f2⟩ := inner l h p hp i hi r e1 e2 (i + 1) (by omega)
    refine ⟨r2, Ev.step (fun k => by simp only [spec_OneSwap.l0]; exact rfl) (ifp hil ?_), Ev.step (fun k => by simp only [impl_OneSwap.l0]; exact rfl) (ifp hil (ifp hi0 (ifp hil ?_)))⟩
    · rw [wrapS hi (by omega)]; exact f1
    · rw [wrapS hi (by omega)]; exact f2
theorem both (l : List Ld) (hn : l.length ≤ 140737488355328) (p : Int) : ∃ r, Ev (fun k => spec_OneSwap.f k l p) r ∧ Ev (fun k => impl_OneSwap.f k l p) r := by
  have h1 := l2Row_ev l hn
  have h2 := offMoment_ev l hn p
  have no : Ev (fun k => spec_OneSwap.j0 k l p true) (0, 0, false) := Ev.step (fun k => by simp only [spec_OneSwap.j0]; exact rfl) (ifp (Eq.refl true) (done rfl))
  unfold spec_OneSwap.f impl_OneSwap.f
  cases hr : RowOK l with
  | false =>
    rw [hr] at h1 h2
    exact ⟨(0, 0, false), Ev.bind h1 (ifn Bool.false_ne_true no), Ev.bind h2 (ifn Bool.false_ne_true (done rfl))⟩
  | true =>
    cases hp : Pl p with
    | false =>
      rw [hr] at h1
      rw [hr, hp] at h2
      exact ⟨(0, 0, false), Ev.bind h1 (ifp (Eq.refl true) (somb (l2In_eq p) (ifn (by rw [hp]; exact Bool.false_ne_true) no))), Ev.bind h2 (ifn Bool.false_ne_true (done rfl))⟩
    | true =>
      rw [hr] at h1
      rw [hr, hp] at h2
      have hm := l2Moment_ev (rowV hr) (plV hp)
      by_cases h0 : mom p l = 0
      · rw [h0] at hm h2
        exact ⟨(0, 0, false), Ev.bind h1 (ifp (Eq.refl true) (somb (l2In_eq p) (ifp hp (Ev.bind hm no)))), Ev.bind h2 (ifn Bool.false_ne_true (done rfl))⟩
      · obtain ⟨r, e1, e2⟩ := loops l (rowV hr) p (plV hp) 0 (Nat.zero_le _)
        have hb : (mom p l == 0) = false := beq_eq_false_iff_ne.2 h0
        have hb2 : (mom p l != 0) = true := bne_iff_ne.2 h0
        have go : Ev (fun k => spec_OneSwap.j0 k l p (mom p l == 0)) r := by
          rw [hb]
          exact Ev.step (fun k => by simp only [spec_OneSwap.j0]; exact rfl) (ifn Bool.false_ne_true e1)
        exact ⟨r, Ev.bind h1 (ifp (Eq.refl true) (somb (l2In_eq p) (ifp hp (Ev.bind hm go)))), Ev.bind h2 (ifp hb2 e2)⟩
theorem pure : Pure := by
  intro l p hl _ _
  obtain ⟨t, ht, hlen⟩ := szLoadS_eq l hl
  refine Ev.rounds ?_
  unfold laws_FnExactOneSwap.f
  refine somb ht (ifc (fun _ => done rfl) fun hneg => ?_)
  have hm := hlen hneg
  have hto := toLoadS_ev l (by omega)
  have hcl : (l.map cv).length ≤ 140737488355328 := by rw [List.length_map]; omega
  obtain ⟨r, e1, e2⟩ := both (l.map cv) hcl p
  refine Ev.bind hto (Ev.bind e1 (Ev.bind hto (Ev.bind e2 (ifp (Eq.refl r.1) (ifp (Eq.refl r.2.1) ?_)))))
  refine Ev.step (fun k => by simp only [laws_FnExactOneSwap.j0]; exact rfl) (ifn (by simp) (Ev.bind hto (Ev.bind (eqLoadS_ev _ hcl) ?_)))
  exact ifp (Eq.refl true) (done rfl)
end Go.Proofs.Ytiehcdophdbjbaa.fnExactOneSwap
