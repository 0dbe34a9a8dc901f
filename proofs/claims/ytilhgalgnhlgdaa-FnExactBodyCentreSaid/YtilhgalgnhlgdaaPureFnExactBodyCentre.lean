/- The plain law of FnExactBodyCentre. No conditions. -/
import Derived.Test.YtilhgalgnhlgdaaStatFnExactBodyCentre
import Derived.Test.YtilhgalgnhlgdaaBody
import Derived.Test.YtilhgalgnhlgdaaFracs
namespace Go.Proofs.Ytilhgalgnhlgdaa.fnExactBodyCentre
open Go.RowKit Go.Proofs.Ytilhgalgnhlgdaa.XAll Go.Proofs.Ytilhgalgnhlgdaa.Plain Go.Proofs.Ytilhgalgnhlgdaa.PureCells Go.Proofs.Ytilhgalgnhlgdaa.PureBody Go.Proofs.Ytilhgalgnhlgdaa.PureFracs Go.Proofs.YtilhgalgnhlgdaaW.PrintWords Go.Proofs.YtilhgalgnhlgdaaW.PrintLast Go.Proofs.YtilhgalgnhlgdaaW.PrintMore
set_option linter.unusedVariables false
theorem middle1_rel (l : List Cl) (hn : l.length ≤ 12) (hr : ∀ x ∈ l, InR x) : ∀ i, i ≤ l.length → ∀ s : Int, 0 ≤ s → s ≤ 25 * (i : Int) → ∃ r, Ev (fun k => spec_l8Middle_1.l0 k l s (i : Int)) r ∧ Ev (fun k => impl_middles_1.l0 k s l (l.length : Int) (i : Int)) r ∧ 0 ≤ r ∧ r ≤ 300 := by
  refine downTo l.length ?_ ?_
  · intro s h0 h1
    exact ⟨s, Ev.step (fun k => by simp only [spec_l8Middle_1.l0]; exact rfl) (ifn (by omega) (done rfl)), Ev.step (fun k => by simp only [impl_middles_1.l0]; exact rfl) (ifn (by omega) (done rfl)), h0, by omega⟩
  · intro i hi ih s h0 h1
    obtain ⟨⟨x0, x1⟩, y0, y1⟩ := hr l[i] (List.getElem_mem hi)
    obtain ⟨r, e1, e2, e3⟩ := ih (s + 2 * l[i].f1 + 1) (by omega) (by omega)
    refine ⟨r, Ev.step (fun k => by simp only [spec_l8Middle_1.l0]; exact rfl) (ifp (by omega) (ifp (by omega) ?_)), Ev.step (fun k => by simp only [impl_middles_1.l0]; exact rfl) (ifp (by omega) (ifp (by omega) (ifp (by omega) ?_))), e3⟩
    · rw [rdC hi, wrapS hi (by omega), w64 (x := 2 * l[i].f1) (by omega) (by omega), w64 (x := s + 2 * l[i].f1) (by omega) (by omega), w64 (by omega) (by omega)]
      exact e1
    · rw [rdC hi, wrapS hi (by omega), w64 (x := 2 * l[i].f1) (by omega) (by omega), w64 (x := 2 * l[i].f1 + 1) (by omega) (by omega), w64 (by omega) (by omega), ← Int.add_assoc]
      exact e2
theorem middle1_ev (l : List Cl) (hn : l.length ≤ 12) (hr : ∀ x ∈ l, InR x) : ∃ r, Ev (fun k => spec_l8Middle_1.f k l) r ∧ Ev (fun k => impl_middles_1.f k l) r ∧ 0 ≤ r ∧ r ≤ 300 := middle1_rel l hn hr 0 (Nat.zero_le _) 0 (by omega) (by omega)
theorem both (l : List Cl) (hn : l.length ≤ 1048576) : ∃ r, Ev (fun k => spec_BodyCentre.f k l) r ∧ Ev (fun k => impl_BodyCentre.f k l) r := by
  obtain ⟨r, e1, e2, hv⟩ := isBody_ev l hn
  unfold spec_BodyCentre.f impl_BodyCentre.f
  cases r with
  | false => exact ⟨(0, 0, 0, 0, false), Ev.bind e1 (ifn Bool.false_ne_true (done rfl)), Ev.bind e2 (ifn Bool.false_ne_true (done rfl))⟩
  | true =>
    have v := hv rfl
    have n0 := v.n0
    have n1 := v.n1
    obtain ⟨s, f1, f2, s0, s1⟩ := middle0_ev l v.n1 v.each
    obtain ⟨t, g1, g2, t0, t1⟩ := middle1_ev l v.n1 v.each
    rw [w64 (x := 2 * (l.length : Int)) (by omega) (by omega)]
    have a1 := l2Cut_ev (a := s) (b := 2 * (l.length : Int)) s0 (by omega) (by omega) (by omega)
    have a2 := fraction_ev (a := s) (b := 2 * (l.length : Int)) s0 (by omega) (by omega) (by omega)
    have b1 := l2Cut_ev (a := t) (b := 2 * (l.length : Int)) t0 (by omega) (by omega) (by omega)
    have b2 := fraction_ev (a := t) (b := 2 * (l.length : Int)) t0 (by omega) (by omega) (by omega)
    exact ⟨((cut s (2 * (l.length : Int))).1, (cut s (2 * (l.length : Int))).2, (cut t (2 * (l.length : Int))).1, (cut t (2 * (l.length : Int))).2, true), Ev.bind e1 (ifp (Eq.refl true) (Ev.bind f1 (Ev.bind a1 (Ev.bind g1 (Ev.bind b1 (done rfl)))))), Ev.bind e2 (ifp (Eq.refl true) (Ev.bind f2 (Ev.bind a2 (Ev.bind g2 (Ev.bind b2 (done rfl))))))⟩
theorem pure : Pure := by
  intro l hl _
  obtain ⟨t, ht, hlen⟩ := szIntA2S_eq l (by omega)
  refine Ev.rounds ?_
  unfold laws_FnExactBodyCentre.f
  refine somb ht (ifc (fun _ => done rfl) fun hneg => ?_)
  have hm := hlen hneg
  have hto := toIntA2S_ev l (by omega)
  have heq := eqIntA2S_ev l (by omega)
  obtain ⟨r, e1, e2⟩ := both l hm
  refine Ev.bind hto (Ev.bind e1 (Ev.bind hto (Ev.bind e2 (somb (eqIntA2_refl _ _) (ifp (Eq.refl true) (somb (eqIntA2_refl _ _) (ifp (Eq.refl true) ?_)))))))
  refine Ev.step (fun k => by simp only [laws_FnExactBodyCentre.j0]; exact rfl) (ifn (by simp) (Ev.bind hto (Ev.bind heq ?_)))
  exact ifp (Eq.refl true) (done rfl)
end Go.Proofs.Ytilhgalgnhlgdaa.fnExactBodyCentre
