/- The plain law of FnExactLooseCells: the program and the reference list the same loose cells. No conditions. -/
import Derived.Test.YtckhmeadflafaaaStatFnExactLooseCells
import Derived.Test.YtckhmeadflafaaaLoose
import Derived.Test.YtckhmeadflafaaaEqInts
import Derived.Test.YtckhmeadflafaaaHeldInts
import Derived.Test.YtckhmeadflafaaaMarkA2
namespace Go.Proofs.Ytckhmeadflafaaa.fnExactLooseCells
open Go.RowKit Go.Proofs.Ytckhmeadflafaaa.XLo Go.Proofs.Ytckhmeadflafaaa.Plain Go.Proofs.Ytckhmeadflafaaa.PureCells Go.Proofs.Ytckhmeadflafaaa.PureBody Go.Proofs.Ytckhmeadflafaaa.PurePut Go.Proofs.Ytckhmeadflafaaa.PureLoose Go.Proofs.Ytckhmeadflafaaa.PureEqInts Go.Proofs.Ytckhmeadflafaaa.PureMarkInts Go.Proofs.Ytckhmeadflafaaa.PureHeldInts Go.Proofs.Ytckhmeadflafaaa.PureMarkA2 Go.Proofs.YtckhmeadflafaaaW.PrintWords Go.Proofs.YtckhmeadflafaaaW.PrintLast Go.Proofs.YtckhmeadflafaaaW.PrintMore
set_option linter.unusedVariables false
theorem loops (l : List Cl) (v : BodyV l) : ∀ i : Nat, i ≤ l.length → ∀ acc : List Int, acc.length ≤ i → ∃ r : List Int, Ev (fun k => spec_l8Loose.l0 k l false acc (i : Int)) r ∧ Ev (fun k => impl_LooseCells.l0 k l acc (l.length : Int) (i : Int)) (r, true) ∧ r.length ≤ 12 := by
  have n1 := v.n1
  refine downTo l.length ?_ ?_
  · intro acc ha
    exact ⟨acc, Ev.step (fun k => by simp only [spec_l8Loose.l0]; exact rfl) (ifn (by omega) (done rfl)), Ev.step (fun k => by simp only [impl_LooseCells.l0]; exact rfl) (ifn (by omega) (done rfl)), by omega⟩
  · intro i hi ih acc ha
    have hal : acc.length < 17592186044416 := by omega
    have hil : (i : Int) < (l.length : Int) := by omega
    have hw : wrap64 ((i : Int) + 1) = ((i + 1 : Nat) : Int) := wrapS hi (by omega)
    obtain ⟨b, q, p, w1, w2, w3, w4, w5⟩ := without_ev v i hi
    cases b with
    | true =>
      obtain ⟨r, e1, e2, e3⟩ := ih (acc ++ [(i : Int)]) (by simp; omega)
      rw [← hw] at e1 e2
      exact ⟨r, Ev.step (fun k => by simp only [spec_l8Loose.l0]; exact rfl) (ifp hil (Ev.bind w1 (ifp (Eq.refl true) (ifn Bool.false_ne_true (ifp hal e1))))), Ev.step (fun k => by simp only [impl_LooseCells.l0]; exact rfl) (ifp hil (Ev.bind w2 (Ev.bind w3 (ifp (Eq.refl true) (ifp hal e2))))), e3⟩
    | false =>
      obtain ⟨r, e1, e2, e3⟩ := ih acc (by omega)
      rw [← hw] at e1 e2
      exact ⟨r, Ev.step (fun k => by simp only [spec_l8Loose.l0]; exact rfl) (ifp hil (Ev.bind w1 (ifn Bool.false_ne_true e1))), Ev.step (fun k => by simp only [impl_LooseCells.l0]; exact rfl) (ifp hil (Ev.bind w2 (Ev.bind w3 (ifn Bool.false_ne_true e2)))), e3⟩
theorem both (l : List Cl) (hn : l.length ≤ 1048576) : ∃ r : List Int × Bool, Ev (fun k => spec_LooseCells.f k l) r ∧ Ev (fun k => impl_LooseCells.f k l) r ∧ r.1.length ≤ 1048576 := by
  obtain ⟨b, e1, e2, hv⟩ := isBody_ev l hn
  unfold spec_LooseCells.f impl_LooseCells.f
  cases b with
  | false => exact ⟨([], false), Ev.bind e1 (ifn Bool.false_ne_true (done rfl)), Ev.bind e2 (ifn Bool.false_ne_true (done rfl)), by simp⟩
  | true =>
    obtain ⟨r, f1, f2, f3⟩ := loops l (hv rfl) 0 (Nat.zero_le _) [] (by simp)
    exact ⟨(r, true), Ev.bind e1 (ifp (Eq.refl true) (Ev.bind (by unfold spec_l8Loose.f; exact f1) (done rfl))), Ev.bind e2 (ifp (Eq.refl true) f2), by show r.length ≤ 1048576; omega⟩
theorem pure : Pure := by
  intro l hl _
  obtain ⟨t, ht, hlen⟩ := szIntA2S_eq l (by omega)
  refine Ev.rounds ?_
  unfold laws_FnExactLooseCells.f
  refine somb ht (ifc (fun _ => done rfl) fun hneg => ?_)
  have hm := hlen hneg
  have hto := toIntA2S_ev l (by omega)
  have heq := eqIntA2S_ev l (by omega)
  obtain ⟨r, e1, e2, hr⟩ := both l hm
  have q := eqIntS_ev r.1 (by omega)
  obtain ⟨R1, m1⟩ := markA2_ev l hm 1 (by omega) (by omega)
  obtain ⟨R3, m3, m3l, m3r⟩ := markIntS_ev r.1 (by omega) 1 (by omega) (by omega)
  have h3 := heldIntS_ev R3 r.1.length m3l (by omega) 1 (by omega) (by omega) m3r
  have hneg1 : ¬ (1 + (r.1.length : Int)) < 0 := by omega
  have hneg2 : ¬ (1 + ((2 * l.length : Nat) : Int)) < 0 := by omega
  have hne : ¬ ((r.2 != r.2) = true) := by simp
  refine Ev.bind hto (Ev.bind e1 (Ev.bind hto (Ev.bind e2 (Ev.bind q (ifp (Eq.refl true) (ifn hne ?_))))))
  refine Ev.bind hto (Ev.bind heq (ifp (Eq.refl true) (Ev.bind m1 (ifn hneg2 (Ev.bind q (ifp (Eq.refl true) ?_))))))
  refine Ev.bind m3 (Ev.bind h3 (ifn hneg1 (ifp rfl (Ev.bind hto (Ev.bind e2 (Ev.bind q (ifp (Eq.refl true) (ifn hne ?_))))))))
  exact Ev.bind h3 (ifn hneg1 (ifp rfl (done rfl)))
end Go.Proofs.Ytckhmeadflafaaa.fnExactLooseCells
