/- The plain law of FnExactStandingTurns. No conditions. -/
import Derived.Test.YtnmdcfdhababnaaStatFnExactStandingTurns
import Derived.Test.YtnmdcfdhababnaaLaid
import Derived.Test.YtnmdcfdhababnaaSide
import Derived.Test.YtnmdcfdhababnaaEqInts
import Derived.Test.YtnmdcfdhababnaaHeldInts
import Derived.Test.YtnmdcfdhababnaaMarkA2
namespace Go.Proofs.Ytnmdcfdhababnaa.fnExactStandingTurns
open Go.RowKit Go.Proofs.Ytnmdcfdhababnaa.XAll Go.Proofs.Ytnmdcfdhababnaa.Plain Go.Proofs.Ytnmdcfdhababnaa.PureCells Go.Proofs.Ytnmdcfdhababnaa.PureBody Go.Proofs.Ytnmdcfdhababnaa.PureGround Go.Proofs.Ytnmdcfdhababnaa.PurePut Go.Proofs.Ytnmdcfdhababnaa.PureTurn Go.Proofs.Ytnmdcfdhababnaa.PureLaid Go.Proofs.Ytnmdcfdhababnaa.PureSide Go.Proofs.Ytnmdcfdhababnaa.PureEqInts Go.Proofs.Ytnmdcfdhababnaa.PureMarkInts Go.Proofs.Ytnmdcfdhababnaa.PureHeldInts Go.Proofs.Ytnmdcfdhababnaa.PureMarkA2 Go.Proofs.YtnmdcfdhababnaaW.PrintWords Go.Proofs.YtnmdcfdhababnaaW.PrintLast Go.Proofs.YtnmdcfdhababnaaW.PrintMore
set_option linter.unusedVariables false
theorem loops : ∀ i, i ≤ 4 → ∀ (l : List Cl), LaidV l → ∀ acc : List Int, acc.length ≤ i → ∃ r : List Int × Bool, Ev (fun k => spec_StandingTurns.l0 k acc l (i : Int)) r ∧ Ev (fun k => impl_StandingTurns.l0 k acc l (i : Int)) r ∧ r.1.length ≤ 4 := by
  refine downTo 4 ?_ ?_
  · intro l v acc ha
    exact ⟨(acc, true), Ev.step (fun k => by simp only [spec_StandingTurns.l0]; exact rfl) (ifn (by omega) (done rfl)), Ev.step (fun k => by simp only [impl_StandingTurns.l0]; exact rfl) (ifn (by omega) (done rfl)), ha⟩
  · intro i hi ih l v acc ha
    have n1 := v.n1
    have hi4 : (i : Int) < 4 := by omega
    have hal : acc.length < 17592186044416 := by omega
    have hw : wrap64 ((i : Int) + 1) = ((i + 1 : Nat) : Int) := wrapS hi (by omega)
    obtain ⟨s, s1, s2⟩ := side_ev l v
    obtain ⟨t1, t2⟩ := turn_ev (Or.inl rfl : Side 1) l v.n0 (by omega) (LaidV.sm v)
    have v2 := turn_laid (Or.inl rfl : Side 1) v
    by_cases hs : s = 0
    · obtain ⟨r, e1, e2, e3⟩ := ih _ v2 (acc ++ [(i : Int)]) (by simp; omega)
      rw [← hw] at e1 e2
      exact ⟨r, Ev.step (fun k => by simp only [spec_StandingTurns.l0]; exact rfl) (ifp hi4 (Ev.bind s1 (ifp hs (ifp hal (Ev.bind t1 e1))))), Ev.step (fun k => by simp only [impl_StandingTurns.l0]; exact rfl) (ifp hi4 (Ev.bind s2 (ifp hs (ifp hal (Ev.bind t2 e2))))), e3⟩
    · obtain ⟨r, e1, e2, e3⟩ := ih _ v2 acc (by omega)
      rw [← hw] at e1 e2
      exact ⟨r, Ev.step (fun k => by simp only [spec_StandingTurns.l0]; exact rfl) (ifp hi4 (Ev.bind s1 (ifn hs (Ev.bind t1 e1)))), Ev.step (fun k => by simp only [impl_StandingTurns.l0]; exact rfl) (ifp hi4 (Ev.bind s2 (ifn hs (Ev.bind t2 e2)))), e3⟩
theorem both (l : List Cl) (hn : l.length ≤ 1048576) : ∃ r : List Int × Bool, Ev (fun k => spec_StandingTurns.f k l) r ∧ Ev (fun k => impl_StandingTurns.f k l) r ∧ r.1.length ≤ 1048576 := by
  obtain ⟨b, e1, e2, hv⟩ := isBody_ev l hn
  unfold spec_StandingTurns.f impl_StandingTurns.f
  cases b with
  | false => exact ⟨([], false), somb rfl (Ev.bind e1 (ifn Bool.false_ne_true (done rfl))), Ev.bind e2 (ifn Bool.false_ne_true (done rfl)), by simp⟩
  | true =>
    obtain ⟨r, f1, f2, f3⟩ := loops 0 (by omega) l (BodyV.laid (hv rfl)) [] (by simp)
    exact ⟨r, somb rfl (Ev.bind e1 (ifp (Eq.refl true) f1)), Ev.bind e2 (ifp (Eq.refl true) f2), by omega⟩
theorem pure : Pure := by
  intro l hl _
  obtain ⟨t, ht, hlen⟩ := szIntA2S_eq l (by omega)
  refine Ev.rounds ?_
  unfold laws_FnExactStandingTurns.f
  refine somb ht (ifc (fun _ => done rfl) fun hneg => ?_)
  have hm := hlen hneg
  have hto := toIntA2S_ev l (by omega)
  have heq := eqIntA2S_ev l (by omega)
  obtain ⟨r, e1, e2, hr⟩ := both l hm
  have q := eqIntS_ev r.1 (by omega)
  obtain ⟨R1, m1⟩ := markA2_ev l hm 1 (by omega) (by omega)
  obtain ⟨R3, m3, m3l, m3r⟩ := markIntS_ev r.1 (by omega) 1 (by omega) (by omega)
  have h3 := heldIntS_ev R3 r.1.length m3l (by omega) 1 (by omega) (by omega) m3r
  have hneg : ¬ (1 + (r.1.length : Int)) < 0 := by omega
  have hneg2 : ¬ (1 + ((2 * l.length : Nat) : Int)) < 0 := by omega
  have last : Ev (fun k => laws_FnExactStandingTurns.j2 k R3 (1 + (r.1.length : Int)) (r.2 != r.2)) true := by
    refine Ev.step (fun k => by simp only [laws_FnExactStandingTurns.j2]; exact rfl) (ifn (by simp) (Ev.bind h3 (ifn hneg ?_)))
    exact ifp rfl (done rfl)
  have mid : Ev (fun k => laws_FnExactStandingTurns.j1 k l r.1 r.2 r.1 (r.2 != r.2)) true := by
    refine Ev.step (fun k => by simp only [laws_FnExactStandingTurns.j1]; exact rfl) (ifn (by simp) (Ev.bind m3 (Ev.bind h3 (ifn hneg (ifp rfl (Ev.bind hto (Ev.bind e2 (Ev.bind q ?_))))))))
    exact ifp (Eq.refl true) last
  refine Ev.bind hto (Ev.bind e1 (Ev.bind hto (Ev.bind e2 (Ev.bind q (ifp (Eq.refl true) ?_)))))
  refine Ev.step (fun k => by simp only [laws_FnExactStandingTurns.j0]; exact rfl) (ifn (by simp) (Ev.bind hto (Ev.bind heq (ifp (Eq.refl true) (Ev.bind m1 (ifn hneg2 (Ev.bind q ?_)))))))
  exact ifp (Eq.refl true) mid
end Go.Proofs.Ytnmdcfdhababnaa.fnExactStandingTurns
