/- The plain law of FnExactSeatRow. No conditions. -/
import Derived.Test.YtijkhhmbhfllkaaStatFnExactSeatRow
import Derived.Test.YtijkhhmbhfllkaaSeatRows
import Derived.Test.YtijkhhmbhfllkaaInts
import Derived.Test.YtijkhhmbhfllkaaMarkInts
namespace Go.Proofs.Ytijkhhmbhfllkaa.fnExactSeatRow
open Go.RowKit Go.Proofs.Ytijkhhmbhfllkaa.XAll Go.Proofs.Ytijkhhmbhfllkaa.Plain Go.Proofs.Ytijkhhmbhfllkaa.PureSeats Go.Proofs.Ytijkhhmbhfllkaa.PureSeatRows Go.Proofs.Ytijkhhmbhfllkaa.PureMarkLoads Go.Proofs.Ytijkhhmbhfllkaa.PureMarkInts Go.Proofs.Ytijkhhmbhfllkaa.PureInts Go.Proofs.YtijkhhmbhfllkaaW.PrintWords Go.Proofs.YtijkhhmbhfllkaaW.PrintLast Go.Proofs.YtijkhhmbhfllkaaW.PrintMore
set_option linter.unusedVariables false
theorem both (ws : List Int) (hn : ws.length ≤ 1048576) (a : Int) (l : List Int) (hl : l.length ≤ 1048576) : ∃ r : List Ld × Bool, Ev (fun k => spec_SeatRow.f k ws a l) r ∧ Ev (fun k => impl_SeatRow.f k ws a l) r ∧ r.1.length ≤ 1048576 := by
  have h1 := l9Ask_ev ws (by omega) a
  have h2 := areWeights_ev ws (by omega)
  obtain ⟨s, e1, e2⟩ := seats_ev ws a l (by omega)
  unfold spec_SeatRow.f impl_SeatRow.f impl_IsSeating.f
  cases hr : WsOK ws with
  | false =>
    rw [hr] at h1 h2
    refine ⟨([], false), Ev.bind h1 (ifn Bool.false_ne_true (done rfl)), Ev.bind (a := (false, false)) (Ev.bind h2 (ifn Bool.false_ne_true (done rfl))) ?_, by simp⟩
    exact ifn Bool.false_ne_true (done rfl)
  | true =>
    cases hp : Sx a with
    | false =>
      rw [hr, hp] at h1
      rw [hr] at h2
      refine ⟨([], false), Ev.bind h1 (ifn Bool.false_ne_true (done rfl)), Ev.bind (a := (false, false)) (Ev.bind h2 (ifp (Eq.refl true) (somb (isSeats_eq a) (ifn (by rw [hp]; exact Bool.false_ne_true) (done rfl))))) ?_, by simp⟩
      exact ifn Bool.false_ne_true (done rfl)
    | true =>
      rw [hr, hp] at h1
      rw [hr] at h2
      cases s with
      | false =>
        refine ⟨([], false), Ev.bind h1 (ifp (Eq.refl true) (Ev.bind e1 ?_)), Ev.bind (a := (false, true)) (Ev.bind h2 (ifp (Eq.refl true) (somb (isSeats_eq a) (ifp hp (Ev.bind e2 (done rfl)))))) ?_, by simp⟩
        · exact ifn Bool.false_ne_true (done rfl)
        · exact ifn Bool.false_ne_true (done rfl)
      | true =>
        have hlen := seats_len ws a l (by omega) 0 (Nat.zero_le _) e1
        obtain ⟨r, f1, f2, f3⟩ := row_ev ws l hn hlen
        refine ⟨(r, true), Ev.bind h1 (ifp (Eq.refl true) (Ev.bind e1 ?_)), Ev.bind (a := (true, true)) (Ev.bind h2 (ifp (Eq.refl true) (somb (isSeats_eq a) (ifp hp (Ev.bind e2 (done rfl)))))) ?_, by show r.length ≤ 1048576; omega⟩
        · exact ifp (Eq.refl true) (Ev.bind f1 (done rfl))
        · exact ifp (Eq.refl true) (ifp (Eq.refl true) (Ev.bind f2 (done rfl)))
theorem pure : Pure := by
  intro l a m hl _ _ hm _
  refine Ev.rounds ?_
  unfold laws_FnExactSeatRow.f
  refine ifc (fun _ => done rfl) fun hn => ifc (fun _ => done rfl) fun hn2 => ?_
  have t1 := toIntS_ev l (by omega)
  have t2 := toIntS_ev m (by omega)
  obtain ⟨r, e1, e2, hr⟩ := both l (by omega) a m (by omega)
  have q := eqLoadS_ev r.1 (by omega)
  obtain ⟨R1, m1, _, _⟩ := markIntS_ev l (by omega) 1 (by omega) (by omega)
  obtain ⟨R2, m2, _, _⟩ := markIntS_ev m (by omega) (1 + (l.length : Int)) (by omega) (by omega)
  obtain ⟨R3, m3, m3l, m3r⟩ := markLoadS_ev r.1 hr 1 (by omega) (by omega)
  have h3 := heldLoadS_ev R3 r.1.length m3l hr 1 (by omega) (by omega) m3r
  have hneg : ¬ (1 + ((2 * r.1.length : Nat) : Int)) < 0 := by omega
  have last : Ev (fun k => laws_FnExactSeatRow.j2 k R3 (1 + ((2 * r.1.length : Nat) : Int)) (r.2 != r.2)) true := by
    refine Ev.step (fun k => by simp only [laws_FnExactSeatRow.j2]; exact rfl) (ifn (by simp) (Ev.bind h3 (ifn hneg ?_)))
    exact ifp rfl (done rfl)
  have mid : Ev (fun k => laws_FnExactSeatRow.j1 k l a m r.1 r.2 r.1 (r.2 != r.2)) true := by
    refine Ev.step (fun k => by simp only [laws_FnExactSeatRow.j1]; exact rfl) (ifn (by simp) (Ev.bind m3 (Ev.bind h3 (ifn hneg (ifp rfl (Ev.bind t1 (Ev.bind t2 (Ev.bind e2 (Ev.bind q ?_)))))))))
    exact ifp (Eq.refl true) last
  refine Ev.bind t1 (Ev.bind t2 (Ev.bind e1 (Ev.bind t1 (Ev.bind t2 (Ev.bind e2 (Ev.bind q (ifp (Eq.refl true) ?_)))))))
  refine Ev.step (fun k => by simp only [laws_FnExactSeatRow.j0]; exact rfl) (ifn (by simp) (Ev.bind t1 (Ev.bind (eqIntS_ev l (by omega)) (ifp (Eq.refl true) (Ev.bind t2 (Ev.bind (eqIntS_ev m (by omega)) (ifp (Eq.refl true) (Ev.bind m1 (Ev.bind m2 (ifn (by show ¬ (1 + (l.length : Int) + (m.length : Int)) < 0; omega) (Ev.bind q ?_)))))))))))
  exact ifp (Eq.refl true) mid
end Go.Proofs.Ytijkhhmbhfllkaa.fnExactSeatRow
