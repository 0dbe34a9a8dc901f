/- The plain law of FnExactCountSafe: the program counts the safe orders as the reference does. No conditions. -/
import Derived.Test.YtkpdddlecibbnaaStatFnExactCountSafe
import Derived.Test.YtkpdddlecibbnaaRaft
import Derived.Test.YtkpdddlecibbnaaBits
import Derived.Test.YtkpdddlecibbnaaWays
namespace Go.Proofs.Ytkpdddlecibbnaa.fnExactCountSafe
open Go.RowKit Go.Proofs.Ytkpdddlecibbnaa.XAll Go.Proofs.Ytkpdddlecibbnaa.Plain Go.Proofs.Ytkpdddlecibbnaa.Bits Go.Proofs.Ytkpdddlecibbnaa.PureRow Go.Proofs.Ytkpdddlecibbnaa.PureRaft Go.Proofs.Ytkpdddlecibbnaa.PureWays Go.Proofs.YtkpdddlecibbnaaW.PrintWords Go.Proofs.YtkpdddlecibbnaaW.PrintLast Go.Proofs.YtkpdddlecibbnaaW.PrintMore
theorem both (a b o : Int) (l : List Ld) (hn : l.length ≤ 140737488355328) : ∃ r, Ev (fun k => spec_CountSafe.f k a b o l) r ∧ Ev (fun k => impl_CountSafe.f k a b o l) r := by
  have h1 := l10Cargo_ev a b o l hn
  have h2 := areCargo_ev a b o l hn
  unfold spec_CountSafe.f impl_CountSafe.f
  cases hc : CargoOK a b o l with
  | false =>
    rw [hc] at h1 h2
    exact ⟨(0, false), Ev.bind h1 (ifn (by decide) (done rfl)), Ev.bind h2 (ifn (by decide) (done rfl))⟩
  | true =>
    rw [hc] at h1 h2
    obtain ⟨r, hr, e1, e2⟩ := ways_ev (valid_of hc)
    have hpos := Nat.two_pow_pos l.length
    exact ⟨(rd r 0, true), Ev.bind h1 (ifp rfl (Ev.bind e1 (ifp (by omega) (done rfl)))), Ev.bind h2 (ifp rfl (Ev.bind e2 (ifp (by omega) (done rfl))))⟩
theorem pure : Pure := by
  intro a b o l _ _ _ hl _
  obtain ⟨t, ht, hlen⟩ := szLoadS_eq l hl
  refine Ev.rounds ?_
  unfold laws_FnExactCountSafe.f
  refine somb ht (ifc (fun _ => done rfl) fun hneg => ?_)
  have hm := hlen hneg
  have hto := toLoadS_ev l (by omega)
  have hcl : (l.map cv).length ≤ 140737488355328 := by rw [List.length_map]; omega
  obtain ⟨r, e1, e2⟩ := both a b o (l.map cv) hcl
  refine somb (a := (a, b, o)) rfl (Ev.bind hto (Ev.bind e1 (Ev.bind hto (somb (a := (a, b, o)) rfl (Ev.bind e2 (ifp rfl ?_))))))
  refine Ev.step (fun k => by simp only [laws_FnExactCountSafe.j0]; exact rfl) (ifn (by simp) (Ev.bind hto (Ev.bind (eqLoadS_ev _ hcl) (ifp rfl (done rfl)))))
end Go.Proofs.Ytkpdddlecibbnaa.fnExactCountSafe
