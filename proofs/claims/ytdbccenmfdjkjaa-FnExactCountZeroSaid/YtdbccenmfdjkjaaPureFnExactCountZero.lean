/- The plain law of FnExactCountZero: the program counts the groups that the reference counts. No conditions. -/
import Derived.Test.YtdbccenmfdjkjaaStatFnExactCountZero
import Derived.Test.YtdbccenmfdjkjaaGroups
namespace Go.Proofs.Ytdbccenmfdjkjaa.fnExactCountZero
open Go.RowKit Go.Proofs.Ytdbccenmfdjkjaa.XCz Go.Proofs.Ytdbccenmfdjkjaa.Plain Go.Proofs.Ytdbccenmfdjkjaa.PureRow Go.Proofs.Ytdbccenmfdjkjaa.PureMoment Go.Proofs.Ytdbccenmfdjkjaa.PureGroups Go.Proofs.YtdbccenmfdjkjaaW.PrintWords Go.Proofs.YtdbccenmfdjkjaaW.PrintLast Go.Proofs.YtdbccenmfdjkjaaW.PrintMore
set_option linter.unusedVariables false
theorem both (l : List Ld) (hn : l.length ≤ 140737488355328) (p : Int) : ∃ r, Ev (fun k => spec_CountZero.f k l p) r ∧ Ev (fun k => impl_CountZero.f k l p) r := by
  have h1 := l2Row_ev l hn
  have h2 := isRow_ev l hn
  unfold spec_CountZero.f impl_CountZero.f
  cases hr : RowOK l with
  | false =>
    rw [hr] at h1 h2
    exact ⟨(0, false), Ev.bind h1 (ifn Bool.false_ne_true (done rfl)), Ev.bind h2 (ifn Bool.false_ne_true (done rfl))⟩
  | true =>
    rw [hr] at h1 h2
    cases hp : Pl p with
    | false =>
      exact ⟨(0, false), Ev.bind h1 (ifp (Eq.refl true) (somb (l2In_eq p) (ifn (by rw [hp]; exact Bool.false_ne_true) (done rfl)))), Ev.bind h2 (ifp (Eq.refl true) (somb (isPlace_eq p) (ifn (by rw [hp]; exact Bool.false_ne_true) (done rfl))))⟩
    | true =>
      exact ⟨(((Zs l p).length : Int), true), Ev.bind h1 (ifp (Eq.refl true) (somb (l2In_eq p) (ifp hp (Ev.bind (l9Groups_ev (rowV hr) (plV hp)) (done rfl))))), Ev.bind h2 (ifp (Eq.refl true) (somb (isPlace_eq p) (ifp hp (Ev.bind (zeroGroups_ev (rowV hr) (plV hp)) (done rfl)))))⟩
theorem pure : Pure := by
  intro l p hl _ _
  obtain ⟨t, ht, hlen⟩ := szLoadS_eq l hl
  refine Ev.rounds ?_
  unfold laws_FnExactCountZero.f
  refine somb ht (ifc (fun _ => done rfl) fun hneg => ?_)
  have hm := hlen hneg
  have hto := toLoadS_ev l (by omega)
  have hcl : (l.map cv).length ≤ 140737488355328 := by rw [List.length_map]; omega
  obtain ⟨r, e1, e2⟩ := both (l.map cv) hcl p
  refine Ev.bind hto (Ev.bind e1 (Ev.bind hto (Ev.bind e2 (ifp (Eq.refl r.1) ?_))))
  refine ifn (by simp) (Ev.bind hto (Ev.bind (eqLoadS_ev _ hcl) ?_))
  exact ifp (Eq.refl true) (done rfl)
end Go.Proofs.Ytdbccenmfdjkjaa.fnExactCountZero
