/- The plain law of FnExactLeastOwn: the program finds the least own weight that the reference finds. No conditions. -/
import Derived.Test.YtkpdddlecibbnaaStatFnExactLeastOwn
import Derived.Test.YtkpdddlecibbnaaRaft
import Derived.Test.YtkpdddlecibbnaaBits
import Derived.Test.YtkpdddlecibbnaaWays
namespace Go.Proofs.Ytkpdddlecibbnaa.fnExactLeastOwn
open Go.RowKit Go.Proofs.Ytkpdddlecibbnaa.XAll Go.Proofs.Ytkpdddlecibbnaa.Plain Go.Proofs.Ytkpdddlecibbnaa.Bits Go.Proofs.Ytkpdddlecibbnaa.PureRow Go.Proofs.Ytkpdddlecibbnaa.PureRaft Go.Proofs.Ytkpdddlecibbnaa.PureWays Go.Proofs.YtkpdddlecibbnaaW.PrintWords Go.Proofs.YtkpdddlecibbnaaW.PrintLast Go.Proofs.YtkpdddlecibbnaaW.PrintMore
theorem loops (a b : Int) (l : List Ld) (h : ∀ o : Int, 1 ≤ o → o ≤ 99 → Valid a b o l) (x : Int) : ∀ j : Nat, j ≤ 100 → 1 ≤ j → ∃ r, Ev (fun k => spec_LeastOwn.l0 k l (j : Int) a b x) r ∧ Ev (fun k => impl_LeastOwn.l0 k l (j : Int) a b x) r := by
  have hpos := Nat.two_pow_pos l.length
  refine downTo 100 ?_ ?_
  · intro _
    exact ⟨(0, false), Ev.step (fun k => by simp only [spec_LeastOwn.l0]; exact rfl) (ifn (by omega) (done rfl)), Ev.step (fun k => by simp only [impl_LeastOwn.l0]; exact rfl) (ifn (by omega) (done rfl))⟩
  · intro j hj ih h1
    obtain ⟨t, ht, e1, e2⟩ := ways_ev (h (j : Int) (by omega) (by omega))
    have hpl : 0 < (t.length : Int) := by omega
    have h99 : (j : Int) ≤ 99 := by omega
    by_cases hr : rd t 0 > 0
    · exact ⟨((j : Int), true), Ev.step (fun k => by simp only [spec_LeastOwn.l0]; exact rfl) (ifp h99 (Ev.bind e1 (ifp hpl (ifp hr (done rfl))))), Ev.step (fun k => by simp only [impl_LeastOwn.l0]; exact rfl) (ifp h99 (Ev.bind e2 (ifp hpl (ifp hr (done rfl)))))⟩
    · obtain ⟨r, f1, f2⟩ := ih (by omega)
      refine ⟨r, Ev.step (fun k => by simp only [spec_LeastOwn.l0]; exact rfl) (ifp h99 (Ev.bind e1 (ifp hpl (ifn hr ?_)))), Ev.step (fun k => by simp only [impl_LeastOwn.l0]; exact rfl) (ifp h99 (Ev.bind e2 (ifp hpl (ifn hr ?_))))⟩
      · rw [wrapS hj (by omega)]; exact f1
      · rw [wrapS hj (by omega)]; exact f2
theorem both (a b o : Int) (l : List Ld) (hn : l.length ≤ 140737488355328) : ∃ r, Ev (fun k => spec_LeastOwn.f k a b o l) r ∧ Ev (fun k => impl_LeastOwn.f k a b o l) r := by
  have h1 := l10Cargo_ev a b o l hn
  have h2 := areCargo_ev a b o l hn
  unfold spec_LeastOwn.f impl_LeastOwn.f
  cases hc : CargoOK a b o l with
  | false =>
    rw [hc] at h1 h2
    exact ⟨(0, false), Ev.bind h1 (ifn (by decide) (done rfl)), Ev.bind h2 (ifn (by decide) (done rfl))⟩
  | true =>
    rw [hc] at h1 h2
    obtain ⟨r, e1, e2⟩ := loops a b l (fun o' h0 h1 => (valid_of hc).own h0 h1) o 1 (by omega) (by omega)
    exact ⟨r, Ev.bind h1 (ifp rfl e1), Ev.bind h2 (ifp rfl e2)⟩
theorem pure : Pure := by
  intro a b o l _ _ _ hl _
  obtain ⟨t, ht, hlen⟩ := szLoadS_eq l hl
  refine Ev.rounds ?_
  unfold laws_FnExactLeastOwn.f
  refine somb ht (ifc (fun _ => done rfl) fun hneg => ?_)
  have hm := hlen hneg
  have hto := toLoadS_ev l (by omega)
  have hcl : (l.map cv).length ≤ 140737488355328 := by rw [List.length_map]; omega
  obtain ⟨r, e1, e2⟩ := both a b o (l.map cv) hcl
  refine somb (a := (a, b, o)) rfl (Ev.bind hto (Ev.bind e1 (Ev.bind hto (somb (a := (a, b, o)) rfl (Ev.bind e2 (ifp rfl ?_))))))
  refine Ev.step (fun k => by simp only [laws_FnExactLeastOwn.j0]; exact rfl) (ifn (by simp) (Ev.bind hto (Ev.bind (eqLoadS_ev _ hcl) (ifp rfl (done rfl)))))
end Go.Proofs.Ytkpdddlecibbnaa.fnExactLeastOwn
