/- The plain law of FnExactPullFor: the program and the reference take the common divisors out alike. No conditions. -/
import Derived.Test.YtjeclehngpfnpaaStatFnExactPullFor
import Derived.Test.YtjeclehngpfnpaaStage
namespace Go.Proofs.Ytjeclehngpfnpaa.fnExactPullFor
open Go.RowKit Go.Proofs.Ytjeclehngpfnpaa.XAll Go.Proofs.Ytjeclehngpfnpaa.Plain Go.Proofs.Ytjeclehngpfnpaa.PureStage Go.Proofs.YtjeclehngpfnpaaW.PrintWords Go.Proofs.YtjeclehngpfnpaaW.PrintLast Go.Proofs.YtjeclehngpfnpaaW.PrintMore
set_option linter.unusedVariables false
theorem both (l : List St) (hn : l.length ≤ 140737488355328) (p : Int) : ∃ r, Ev (fun k => spec_PullFor.f k l p) r ∧ Ev (fun k => impl_PullFor.f k l p) r := by
  have h1 := l7Ask_ev l p hn
  have h2 := isChain_ev l hn
  unfold spec_PullFor.f impl_PullFor.f
  have no : Ev (fun k => impl_PullFor.j0 k l p true) (0, 0, false) := Ev.step (fun k => by simp only [impl_PullFor.j0]; exact rfl) (ifp (Eq.refl true) (done rfl))
  cases hr : ChainOK l 5 with
  | false =>
    rw [hr] at h1 h2
    exact ⟨(0, 0, false), Ev.bind h1 (ifn Bool.false_ne_true (done rfl)), Ev.bind h2 (ifn Bool.false_ne_true no)⟩
  | true =>
    cases hp : Hl p with
    | false =>
      rw [hr, hp] at h1
      rw [hr] at h2
      refine ⟨(0, 0, false), Ev.bind h1 (ifn Bool.false_ne_true (done rfl)), Ev.bind h2 (ifp (Eq.refl true) (somb (isHaul_eq p) ?_))⟩
      rw [hp]; exact no
    | true =>
      rw [hr, hp] at h1
      rw [hr] at h2
      have hv := chainV hr
      obtain ⟨⟨g1, g2⟩, g3, g4⟩ := cg_range hv
      have hb : 0 ≤ p ∧ p ≤ 1000000 := of_decide_eq_true hp
      have m0 : 0 ≤ p * (cg l).2 := Int.mul_nonneg hb.1 (by omega)
      have m1 : p * (cg l).2 ≤ 1000000 * 7962624 := Int.mul_le_mul hb.2 g4 (by omega) (by omega)
      have a1 := l2Cut_ev m0 (by omega) g1 (by omega)
      have a2 := fraction_ev m0 (by omega) g1 (by omega)
      have e : wrap64 (p * (cg l).2) = p * (cg l).2 := w64 (by omega) (by omega)
      refine ⟨((cut (p * (cg l).2) (cg l).1).1, (cut (p * (cg l).2) (cg l).1).2, true), Ev.bind h1 (ifp (Eq.refl true) (Ev.bind (l7Chain_ev hv) ?_)), Ev.bind h2 (ifp (Eq.refl true) (somb (isHaul_eq p) ?_))⟩
      · rw [e]; exact Ev.bind a1 (done rfl)
      · rw [hp]
        refine Ev.step (fun k => by simp only [impl_PullFor.j0]; exact rfl) (ifn (by decide) (Ev.bind (chainGain_ev hv) ?_))
        rw [e]; exact Ev.bind a2 (done rfl)
theorem pure : Pure := by
  intro l p hl _ _
  obtain ⟨t, ht, hlen⟩ := szStageS_eq l (by omega)
  refine Ev.rounds ?_
  unfold laws_FnExactPullFor.f
  refine somb ht (ifc (fun _ => done rfl) fun hneg => ?_)
  have hm := hlen hneg
  have hto := toStageS_ev l (by omega)
  have hcl : (l.map cv).length ≤ 140737488355328 := by rw [List.length_map]; omega
  obtain ⟨r, e1, e2⟩ := both (l.map cv) hcl p
  refine Ev.bind hto (Ev.bind e1 (Ev.bind hto (Ev.bind e2 (somb rfl ?_))))
  refine ifp (by simp) ?_
  refine Ev.step (fun k => by simp only [laws_FnExactPullFor.j0]; exact rfl) (ifn (by simp) (Ev.bind hto (Ev.bind (eqStageS_ev _ hcl) ?_)))
  exact ifp (Eq.refl true) (done rfl)
end Go.Proofs.Ytjeclehngpfnpaa.fnExactPullFor
