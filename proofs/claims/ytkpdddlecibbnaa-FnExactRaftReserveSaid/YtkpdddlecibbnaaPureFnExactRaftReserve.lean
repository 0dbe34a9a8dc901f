/- The plain law of FnExactRaftReserve: the program's reserves of a set are the reference's. No conditions. -/
import Derived.Test.YtkpdddlecibbnaaStatFnExactRaftReserve
import Derived.Test.YtkpdddlecibbnaaSets
namespace Go.Proofs.Ytkpdddlecibbnaa.fnExactRaftReserve
open Go.RowKit Go.Proofs.Ytkpdddlecibbnaa.XAll Go.Proofs.Ytkpdddlecibbnaa.Plain Go.Proofs.Ytkpdddlecibbnaa.Bits Go.Proofs.Ytkpdddlecibbnaa.PureRow Go.Proofs.Ytkpdddlecibbnaa.PureRaft Go.Proofs.Ytkpdddlecibbnaa.PureInts Go.Proofs.Ytkpdddlecibbnaa.PureSets Go.Proofs.YtkpdddlecibbnaaW.PrintWords Go.Proofs.YtkpdddlecibbnaaW.PrintLast Go.Proofs.YtkpdddlecibbnaaW.PrintMore
theorem both (a b o : Int) (cg : List Ld) (hc : cg.length ≤ 140737488355328) (l : List Int) (hn : l.length ≤ 140737488355328) : ∃ r, Ev (fun k => spec_RaftReserve.f k a b o cg l) r ∧ Ev (fun k => impl_RaftReserve.f k a b o cg l) r := by
  have h2 := areCargo_ev a b o cg hc
  unfold spec_RaftReserve.f impl_RaftReserve.f
  rcases code_ev a b o cg hc l hn with ⟨c, hv, hok, e1, e2⟩ | ⟨e1, e2 | ⟨hok, c, e2⟩⟩
  · rw [hok] at h2
    obtain ⟨r, r1, r2⟩ := res_ev hv c
    exact ⟨(r.1, r.2, true), Ev.bind e1 (ifp (Eq.refl true) (Ev.bind r1 (done rfl))), Ev.bind e2 (ifp (Eq.refl true) (Ev.bind h2 (ifp (Eq.refl true) (Ev.bind r2 (done rfl)))))⟩
  · exact ⟨(0, 0, false), Ev.bind e1 (ifn Bool.false_ne_true (done rfl)), Ev.bind e2 (ifn Bool.false_ne_true (done rfl))⟩
  · rw [hok] at h2
    exact ⟨(0, 0, false), Ev.bind e1 (ifn Bool.false_ne_true (done rfl)), Ev.bind e2 (ifp (Eq.refl true) (Ev.bind h2 (ifn Bool.false_ne_true (done rfl))))⟩
theorem pure : Pure := by
  intro a b o l s _ _ _ hl _ _ _
  obtain ⟨t, ht, hlen⟩ := szLoadS_eq l hl
  refine Ev.rounds ?_
  unfold laws_FnExactRaftReserve.f
  refine ifc (fun _ => done rfl) fun hs => somb ht (ifc (fun _ => done rfl) fun hneg => ?_)
  have hm := hlen hneg
  have hto := toLoadS_ev l (by omega)
  have hti := toIntS_ev s (by omega)
  have hcl : (l.map cv).length ≤ 140737488355328 := by rw [List.length_map]; omega
  obtain ⟨r, e1, e2⟩ := both a b o (l.map cv) hcl s (by omega)
  refine somb (a := (a, b, o)) rfl (Ev.bind hto (Ev.bind hti (Ev.bind e1 (Ev.bind hto (Ev.bind hti (somb (a := (a, b, o)) rfl (Ev.bind e2 (ifp (Eq.refl r.1) (ifp (Eq.refl r.2.1) ?_)))))))))
  refine Ev.step (fun k => by simp only [laws_FnExactRaftReserve.j0]; exact rfl) (ifn (by simp) (Ev.bind hto (Ev.bind (eqLoadS_ev _ hcl) (ifp (Eq.refl true) (Ev.bind hti (Ev.bind (eqIntS_ev s (by omega)) ?_))))))
  exact ifp (Eq.refl true) (done rfl)
end Go.Proofs.Ytkpdddlecibbnaa.fnExactRaftReserve
