/- The plain law of FnExactTurnBody. No conditions. -/
import Derived.Test.YtilhgalgnhlgdaaStatFnExactTurnBody
import Derived.Test.YtilhgalgnhlgdaaPut
import Derived.Test.YtilhgalgnhlgdaaMarkCells
import Derived.Test.YtilhgalgnhlgdaaTurn
namespace Go.Proofs.Ytilhgalgnhlgdaa.fnExactTurnBody
open Go.RowKit Go.Proofs.Ytilhgalgnhlgdaa.XAll Go.Proofs.Ytilhgalgnhlgdaa.Plain Go.Proofs.Ytilhgalgnhlgdaa.PureCells Go.Proofs.Ytilhgalgnhlgdaa.PureBody Go.Proofs.Ytilhgalgnhlgdaa.PurePut Go.Proofs.Ytilhgalgnhlgdaa.PureMarkCells Go.Proofs.Ytilhgalgnhlgdaa.PureTurn Go.Proofs.YtilhgalgnhlgdaaW.PrintWords Go.Proofs.YtilhgalgnhlgdaaW.PrintLast Go.Proofs.YtilhgalgnhlgdaaW.PrintMore
set_option linter.unusedVariables false
theorem both (l : List Cl) (hn : l.length ≤ 1048576) (s : Int) : ∃ r : List Cl × Bool, Ev (fun k => spec_TurnBody.f k l s) r ∧ Ev (fun k => impl_TurnBody.f k l s) r ∧ r.1.length ≤ 1048576 := by
  obtain ⟨b, e1, e2, hv⟩ := isBody_ev l hn
  unfold spec_TurnBody.f impl_TurnBody.f
  cases b with
  | false => exact ⟨([], false), Ev.bind e1 (ifn Bool.false_ne_true (done rfl)), Ev.bind e2 (ifn Bool.false_ne_true (done rfl)), by simp⟩
  | true =>
    have v := hv rfl
    have n1 := v.n1
    have hsm : ∀ x ∈ l, Sm x := fun x hx => InR.sm (v.each x hx)
    by_cases h1 : s = 1
    · obtain ⟨f1, f2⟩ := turn_ev (Or.inl h1) l v.n0 (by omega) hsm
      exact ⟨(_, true), Ev.bind e1 (ifp (Eq.refl true) (ifp h1 (Ev.bind f1 (done rfl)))), Ev.bind e2 (ifp (Eq.refl true) (ifp h1 (Ev.bind f2 (done rfl)))), by show (pd (l.map (tb s)) (tb_pos s v.n0)).length ≤ 1048576; rw [pd_len, List.length_map]; omega⟩
    · by_cases h2 : s = -1
      · obtain ⟨f1, f2⟩ := turn_ev (Or.inr h2) l v.n0 (by omega) hsm
        exact ⟨(_, true), Ev.bind e1 (ifp (Eq.refl true) (ifn h1 (ifp h2 (Ev.bind f1 (done rfl))))), Ev.bind e2 (ifp (Eq.refl true) (ifn h1 (ifp h2 (Ev.bind f2 (done rfl))))), by show (pd (l.map (tb s)) (tb_pos s v.n0)).length ≤ 1048576; rw [pd_len, List.length_map]; omega⟩
      · exact ⟨([], false), Ev.bind e1 (ifp (Eq.refl true) (ifn h1 (ifn h2 (done rfl)))), Ev.bind e2 (ifp (Eq.refl true) (ifn h1 (ifn h2 (done rfl)))), by simp⟩
theorem pure : Pure := by
  intro l s hl _ _
  obtain ⟨t, ht, hlen⟩ := szIntA2S_eq l (by omega)
  refine Ev.rounds ?_
  unfold laws_FnExactTurnBody.f
  refine somb ht (ifc (fun _ => done rfl) fun hneg => ?_)
  have hm := hlen hneg
  have hto := toIntA2S_ev l (by omega)
  have heq := eqIntA2S_ev l (by omega)
  obtain ⟨r, e1, e2, hr⟩ := both l hm s
  have q := eqIntA2S_ev r.1 (by omega)
  obtain ⟨R1, m1, _, _⟩ := markIntA2S_ev l hm 1 (by omega) (by omega)
  obtain ⟨R3, m3, m3l, m3r⟩ := markIntA2S_ev r.1 (by omega) 1 (by omega) (by omega)
  have h3 := heldIntA2S_ev R3 r.1.length m3l (by omega) 1 (by omega) (by omega) m3r
  have hneg : ¬ (1 + ((2 * r.1.length : Nat) : Int)) < 0 := by omega
  have hneg2 : ¬ (1 + ((2 * l.length : Nat) : Int)) < 0 := by omega
  have last : Ev (fun k => laws_FnExactTurnBody.j2 k R3 (1 + ((2 * r.1.length : Nat) : Int)) (r.2 != r.2)) true := by
    refine Ev.step (fun k => by simp only [laws_FnExactTurnBody.j2]; exact rfl) (ifn (by simp) (Ev.bind h3 (ifn hneg ?_)))
    exact ifp rfl (done rfl)
  have mid : Ev (fun k => laws_FnExactTurnBody.j1 k l s r.1 r.2 r.1 (r.2 != r.2)) true := by
    refine Ev.step (fun k => by simp only [laws_FnExactTurnBody.j1]; exact rfl) (ifn (by simp) (Ev.bind m3 (Ev.bind h3 (ifn hneg (ifp rfl (Ev.bind hto (Ev.bind e2 (Ev.bind q ?_))))))))
    exact ifp (Eq.refl true) last
  refine Ev.bind hto (Ev.bind e1 (Ev.bind hto (Ev.bind e2 (Ev.bind q (ifp (Eq.refl true) ?_)))))
  refine Ev.step (fun k => by simp only [laws_FnExactTurnBody.j0]; exact rfl) (ifn (by simp) (Ev.bind hto (Ev.bind heq (ifp (Eq.refl true) (Ev.bind m1 (ifn hneg2 (Ev.bind q ?_)))))))
  exact ifp (Eq.refl true) mid
end Go.Proofs.Ytilhgalgnhlgdaa.fnExactTurnBody
