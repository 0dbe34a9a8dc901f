/- The plain law of FnExactRaftSide: the program tells the side to which a raft tips as the reference does. No conditions. -/
import Derived.Test.YtkpdddlecibbnaaStatFnExactRaftSide
import Derived.Test.YtkpdddlecibbnaaSets
namespace Go.Proofs.Ytkpdddlecibbnaa.fnExactRaftSide
open Go.RowKit Go.Proofs.Ytkpdddlecibbnaa.XAll Go.Proofs.Ytkpdddlecibbnaa.Plain Go.Proofs.Ytkpdddlecibbnaa.Bits Go.Proofs.Ytkpdddlecibbnaa.PureRow Go.Proofs.Ytkpdddlecibbnaa.PureRaft Go.Proofs.Ytkpdddlecibbnaa.PureInts Go.Proofs.Ytkpdddlecibbnaa.PureSets Go.Proofs.YtkpdddlecibbnaaW.PrintWords Go.Proofs.YtkpdddlecibbnaaW.PrintLast Go.Proofs.YtkpdddlecibbnaaW.PrintMore
theorem both (a b o : Int) (cg : List Ld) (hc : cg.length ≤ 140737488355328) (l : List Int) (hn : l.length ≤ 140737488355328) : ∃ r, Ev (fun k => spec_RaftSide.f k a b o cg l) r ∧ Ev (fun k => impl_RaftSide.f k a b o cg l) r := by
  have h2 := areCargo_ev a b o cg hc
  unfold spec_RaftSide.f impl_RaftSide.f impl_RaftReserve.f
  rcases code_ev a b o cg hc l hn with ⟨c, hv, hok, e1, e2⟩ | ⟨e1, e2 | ⟨hok, c, e2⟩⟩
  · rw [hok] at h2
    obtain ⟨r, r1, r2⟩ := res_ev hv c
    have e3 : Ev (fun k => impl_RaftReserve.f k a b o cg l) (r.1, r.2, true) := Ev.bind e2 (ifp (Eq.refl true) (Ev.bind h2 (ifp (Eq.refl true) (Ev.bind r2 (done rfl)))))
    unfold impl_RaftReserve.f at e3
    by_cases hl : r.1 < 0
    · exact ⟨(-1, true), Ev.bind e1 (ifp (Eq.refl true) (Ev.bind r1 (ifp hl (done rfl)))), Ev.bind e3 (ifp hl (done rfl))⟩
    · by_cases hr : r.2 < 0
      · exact ⟨(1, true), Ev.bind e1 (ifp (Eq.refl true) (Ev.bind r1 (ifn hl (ifp hr (done rfl))))), Ev.bind e3 (ifn hl (ifp hr (done rfl)))⟩
      · exact ⟨(0, true), Ev.bind e1 (ifp (Eq.refl true) (Ev.bind r1 (ifn hl (ifn hr (done rfl))))), Ev.bind e3 (ifn hl (ifn hr (done rfl)))⟩
  · have e3 : Ev (fun k => impl_RaftReserve.f k a b o cg l) (0, 0, false) := Ev.bind e2 (ifn Bool.false_ne_true (done rfl))
    unfold impl_RaftReserve.f at e3
    exact ⟨(0, false), Ev.bind e1 (ifn Bool.false_ne_true (done rfl)), Ev.bind e3 (ifn (by decide) (ifn (by decide) (done rfl)))⟩
  · rw [hok] at h2
    have e3 : Ev (fun k => impl_RaftReserve.f k a b o cg l) (0, 0, false) := Ev.bind e2 (ifp (Eq.refl true) (Ev.bind h2 (ifn Bool.false_ne_true (done rfl))))
    unfold impl_RaftReserve.f at e3
    exact ⟨(0, false), Ev.bind e1 (ifn Bool.false_ne_true (done rfl)), Ev.bind e3 (ifn (by decide) (ifn (by decide) (done rfl)))⟩
theorem pure : Pure := by
  intro a b o l s _ _ _ hl _ _ _
  obtain ⟨t, ht, hlen⟩ := szLoadS_eq l hl
  refine Ev.rounds ?_
  unfold laws_FnExactRaftSide.f
  refine ifc (fun _ => done rfl) fun hs => somb ht (ifc (fun _ => done rfl) fun hneg => ?_)
  have hm := hlen hneg
  have hto := toLoadS_ev l (by omega)
  have hti := toIntS_ev s (by omega)
  have hcl : (l.map cv).length ≤ 140737488355328 := by rw [List.length_map]; omega
  obtain ⟨r, e1, e2⟩ := both a b o (l.map cv) hcl s (by omega)
  refine somb (a := (a, b, o)) rfl (Ev.bind hto (Ev.bind hti (Ev.bind e1 (Ev.bind hto (Ev.bind hti (somb (a := (a, b, o)) rfl (Ev.bind e2 (ifp (Eq.refl r.1) ?_))))))))
  refine Ev.step (fun k => by simp only [laws_FnExactRaftSide.j0]; exact rfl) (ifn (by simp) (Ev.bind hto (Ev.bind (eqLoadS_ev _ hcl) (ifp (Eq.refl true) (Ev.bind hti (Ev.bind (eqIntS_ev s (by omega)) ?_))))))
  exact ifp (Eq.refl true) (done rfl)
end Go.Proofs.Ytkpdddlecibbnaa.fnExactRaftSide
