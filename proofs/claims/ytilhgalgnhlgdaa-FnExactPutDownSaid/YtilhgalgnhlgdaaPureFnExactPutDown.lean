/- The plain law of FnExactPutDown. No conditions. -/
import Derived.Test.YtilhgalgnhlgdaaStatFnExactPutDown
import Derived.Test.YtilhgalgnhlgdaaPut
import Derived.Test.YtilhgalgnhlgdaaMarkCells
namespace Go.Proofs.Ytilhgalgnhlgdaa.fnExactPutDown
open Go.RowKit Go.Proofs.Ytilhgalgnhlgdaa.XAll Go.Proofs.Ytilhgalgnhlgdaa.Plain Go.Proofs.Ytilhgalgnhlgdaa.PureCells Go.Proofs.Ytilhgalgnhlgdaa.PureBody Go.Proofs.Ytilhgalgnhlgdaa.PurePut Go.Proofs.Ytilhgalgnhlgdaa.PureMarkCells Go.Proofs.YtilhgalgnhlgdaaW.PrintWords Go.Proofs.YtilhgalgnhlgdaaW.PrintLast Go.Proofs.YtilhgalgnhlgdaaW.PrintMore
set_option linter.unusedVariables false
def Near (x : Cl) : Prop := (-60 ≤ x.f0 ∧ x.f0 ≤ 60) ∧ -60 ≤ x.f1 ∧ x.f1 ≤ 60
theorem loops (l : List Cl) (h0 : 0 < l.length) (hn : l.length ≤ 12) : ∀ i, i ≤ l.length → (∀ j, (h : j < l.length) → j < i → Near l[j]) → ∃ r : List Cl × Bool, Ev (fun k => spec_PutDown.l0 k l (i : Int)) r ∧ Ev (fun k => impl_PutDown.l0 k l l (l.length : Int) (i : Int)) r ∧ r.1.length ≤ 1048576 := by
  refine downTo l.length ?_ ?_
  · intro h
    have hs : ∀ x ∈ l, Small x := by
      intro x hx
      obtain ⟨j, hj, rfl⟩ := List.getElem_of_mem hx
      obtain ⟨⟨a, b⟩, c, d⟩ := h j hj hj
      exact ⟨⟨by omega, by omega⟩, by omega, by omega⟩
    have f1 := l8Down_ev l h0 (by omega) hs
    have f2 := put_ev l h0 (by omega) hs
    have hp := pd_len l h0
    obtain ⟨b, g1, g2, _⟩ := isBody_ev (pd l h0) (by omega)
    cases b with
    | true =>
      refine ⟨(pd l h0, true), Ev.step (fun k => by simp only [spec_PutDown.l0]; exact rfl) (ifn (by omega) (Ev.bind f1 (Ev.bind g1 ?_))), Ev.step (fun k => by simp only [impl_PutDown.l0]; exact rfl) (ifn (by omega) (Ev.bind f2 (Ev.bind g2 ?_))), by show (pd l h0).length ≤ 1048576; omega⟩
      · exact ifp (Eq.refl true) (done rfl)
      · exact ifp (Eq.refl true) (done rfl)
    | false =>
      refine ⟨([], false), Ev.step (fun k => by simp only [spec_PutDown.l0]; exact rfl) (ifn (by omega) (Ev.bind f1 (Ev.bind g1 ?_))), Ev.step (fun k => by simp only [impl_PutDown.l0]; exact rfl) (ifn (by omega) (Ev.bind f2 (Ev.bind g2 ?_))), by simp⟩
      · exact ifn Bool.false_ne_true (done rfl)
      · exact ifn Bool.false_ne_true (done rfl)
  · intro i hi ih h
    have hi0 : 0 ≤ (i : Int) := by omega
    have hil : (i : Int) < (l.length : Int) := by omega
    have hw : wrap64 ((i : Int) + 1) = ((i + 1 : Nat) : Int) := wrapS hi (by omega)
    by_cases c0 : -60 ≤ l[i].f0 ∧ l[i].f0 ≤ 60
    · by_cases c1 : -60 ≤ l[i].f1 ∧ l[i].f1 ≤ 60
      · obtain ⟨r, e1, e2, e3⟩ := ih (fun j hj hji => by
          by_cases e : j = i
          · subst e; exact ⟨c0, c1⟩
          · exact h j hj (by omega))
        refine ⟨r, Ev.step (fun k => by simp only [spec_PutDown.l0]; exact rfl) (ifp hil (ifp hi0 ?_)), Ev.step (fun k => by simp only [impl_PutDown.l0]; exact rfl) (ifp hil (ifp hi0 (ifp hil ?_))), e3⟩
        · rw [rdC hi, hw]
          exact somb (l1In_eq _ _ _) (ifp (decide_eq_true c0) (somb (l1In_eq _ _ _) (ifp (decide_eq_true c1) e1)))
        · rw [rdC hi, hw]
          exact somb (within_eq _ _ _) (ifp (decide_eq_true c0) (somb (within_eq _ _ _) (ifp (decide_eq_true c1) e2)))
      · have nf : ¬ (decide (-60 ≤ l[i].f1 ∧ l[i].f1 ≤ 60) = true) := by rw [decide_eq_false c1]; exact Bool.false_ne_true
        refine ⟨([], false), Ev.step (fun k => by simp only [spec_PutDown.l0]; exact rfl) (ifp hil (ifp hi0 ?_)), Ev.step (fun k => by simp only [impl_PutDown.l0]; exact rfl) (ifp hil (ifp hi0 (ifp hil ?_))), by simp⟩
        · rw [rdC hi]
          exact somb (l1In_eq _ _ _) (ifp (decide_eq_true c0) (somb (l1In_eq _ _ _) (ifn nf (done rfl))))
        · rw [rdC hi]
          exact somb (within_eq _ _ _) (ifp (decide_eq_true c0) (somb (within_eq _ _ _) (ifn nf (done rfl))))
    · have nf : ¬ (decide (-60 ≤ l[i].f0 ∧ l[i].f0 ≤ 60) = true) := by rw [decide_eq_false c0]; exact Bool.false_ne_true
      refine ⟨([], false), Ev.step (fun k => by simp only [spec_PutDown.l0]; exact rfl) (ifp hil (ifp hi0 ?_)), Ev.step (fun k => by simp only [impl_PutDown.l0]; exact rfl) (ifp hil (ifp hi0 (ifp hil ?_))), by simp⟩
      · rw [rdC hi]
        exact somb (l1In_eq _ _ _) (ifn nf (done rfl))
      · rw [rdC hi]
        exact somb (within_eq _ _ _) (ifn nf (done rfl))
theorem both (l : List Cl) (hn : l.length ≤ 1048576) : ∃ r : List Cl × Bool, Ev (fun k => spec_PutDown.f k l) r ∧ Ev (fun k => impl_PutDown.f k l) r ∧ r.1.length ≤ 1048576 := by
  unfold spec_PutDown.f impl_PutDown.f
  by_cases h : 1 ≤ (l.length : Int) ∧ (l.length : Int) ≤ 12
  · obtain ⟨r, e1, e2, e3⟩ := loops l (by omega) (by omega) 0 (Nat.zero_le _) (fun j hj h => absurd h (by omega))
    exact ⟨r, somb (l1In_eq _ _ _) (ifp (decide_eq_true h) e1), somb (within_eq _ _ _) (ifp (decide_eq_true h) e2), e3⟩
  · have nf : ¬ (decide (1 ≤ (l.length : Int) ∧ (l.length : Int) ≤ 12) = true) := by rw [decide_eq_false h]; exact Bool.false_ne_true
    exact ⟨([], false), somb (l1In_eq _ _ _) (ifn nf (done rfl)), somb (within_eq _ _ _) (ifn nf (done rfl)), by simp⟩
theorem pure : Pure := by
  intro l hl _
  obtain ⟨t, ht, hlen⟩ := szIntA2S_eq l (by omega)
  refine Ev.rounds ?_
  unfold laws_FnExactPutDown.f
  refine somb ht (ifc (fun _ => done rfl) fun hneg => ?_)
  have hm := hlen hneg
  have hto := toIntA2S_ev l (by omega)
  have heq := eqIntA2S_ev l (by omega)
  obtain ⟨r, e1, e2, hr⟩ := both l hm
  have q := eqIntA2S_ev r.1 (by omega)
  obtain ⟨R1, m1, _, _⟩ := markIntA2S_ev l hm 1 (by omega) (by omega)
  obtain ⟨R3, m3, m3l, m3r⟩ := markIntA2S_ev r.1 (by omega) 1 (by omega) (by omega)
  have h3 := heldIntA2S_ev R3 r.1.length m3l (by omega) 1 (by omega) (by omega) m3r
  have hneg : ¬ (1 + ((2 * r.1.length : Nat) : Int)) < 0 := by omega
  have hneg2 : ¬ (1 + ((2 * l.length : Nat) : Int)) < 0 := by omega
  have last : Ev (fun k => laws_FnExactPutDown.j2 k R3 (1 + ((2 * r.1.length : Nat) : Int)) (r.2 != r.2)) true := by
    refine Ev.step (fun k => by simp only [laws_FnExactPutDown.j2]; exact rfl) (ifn (by simp) (Ev.bind h3 (ifn hneg ?_)))
    exact ifp rfl (done rfl)
  have mid : Ev (fun k => laws_FnExactPutDown.j1 k l r.1 r.2 r.1 (r.2 != r.2)) true := by
    refine Ev.step (fun k => by simp only [laws_FnExactPutDown.j1]; exact rfl) (ifn (by simp) (Ev.bind m3 (Ev.bind h3 (ifn hneg (ifp rfl (Ev.bind hto (Ev.bind e2 (Ev.bind q ?_))))))))
    exact ifp (Eq.refl true) last
  refine Ev.bind hto (Ev.bind e1 (Ev.bind hto (Ev.bind e2 (Ev.bind q (ifp (Eq.refl true) ?_)))))
  refine Ev.step (fun k => by simp only [laws_FnExactPutDown.j0]; exact rfl) (ifn (by simp) (Ev.bind hto (Ev.bind heq (ifp (Eq.refl true) (Ev.bind m1 (ifn hneg2 (Ev.bind q ?_)))))))
  exact ifp (Eq.refl true) mid
end Go.Proofs.Ytilhgalgnhlgdaa.fnExactPutDown
