/- The plain law of FnExactSafeSets: the program counts the safe sets as the reference does. No conditions. -/
import Derived.Test.YtkpdddlecibbnaaStatFnExactSafeSets
import Derived.Test.YtkpdddlecibbnaaRaft
import Derived.Test.YtkpdddlecibbnaaBits
namespace Go.Proofs.Ytkpdddlecibbnaa.fnExactSafeSets
open Go.RowKit Go.Proofs.Ytkpdddlecibbnaa.XAll Go.Proofs.Ytkpdddlecibbnaa.Plain Go.Proofs.Ytkpdddlecibbnaa.Bits Go.Proofs.Ytkpdddlecibbnaa.PureRow Go.Proofs.Ytkpdddlecibbnaa.PureRaft Go.Proofs.YtkpdddlecibbnaaW.PrintWords Go.Proofs.YtkpdddlecibbnaaW.PrintLast Go.Proofs.YtkpdddlecibbnaaW.PrintMore
theorem loops (a b o : Int) (l : List Ld) (h : Valid a b o l) : ∀ j : Nat, j ≤ 2 ^ l.length → ∀ c : Int, ∃ r, Ev (fun k => spec_SafeSets.l0 k l c (j : Int) a b o) r ∧ Ev (fun k => impl_SafeSets.l0 k l c (shl .i64 1 (l.length : Int)) (j : Int) a b o) r := by
  have hn := h.n
  have hs : shl .i64 1 (l.length : Int) = ((2 ^ l.length : Nat) : Int) := shlN rfl (by omega)
  have hp := pow62 (n := l.length) (by omega)
  have hp8 : 2 ^ l.length ≤ 2 ^ 8 := Nat.pow_le_pow_right (by decide) hn
  rw [show (2 : Nat) ^ 8 = 256 from by decide] at hp8
  rw [hs]
  generalize hN : 2 ^ l.length = N at hs hp hp8 ⊢
  refine downTo N ?_ ?_
  · intro c
    refine ⟨(c, true), Ev.step (fun k => by simp only [spec_SafeSets.l0]; exact rfl) (ifn (by rw [hs]; omega) (done rfl)), Ev.step (fun k => by simp only [impl_SafeSets.l0]; exact rfl) (ifn (by omega) (done rfl))⟩
  · intro j hj ih c
    obtain ⟨s, h1, h2⟩ := safe_ev h (j : Int)
    cases s with
    | true =>
      obtain ⟨r, e1, e2⟩ := ih (wrap64 (c + 1))
      refine ⟨r, Ev.step (fun k => by simp only [spec_SafeSets.l0]; exact rfl) (ifp (by rw [hs]; omega) (Ev.bind h1 (ifp rfl ?_))), Ev.step (fun k => by simp only [impl_SafeSets.l0]; exact rfl) (ifp (by omega) (Ev.bind h2 (ifp rfl ?_)))⟩
      · rw [wrapS hj (by omega)]; exact e1
      · rw [wrapS hj (by omega)]; exact e2
    | false =>
      obtain ⟨r, e1, e2⟩ := ih c
      refine ⟨r, Ev.step (fun k => by simp only [spec_SafeSets.l0]; exact rfl) (ifp (by rw [hs]; omega) (Ev.bind h1 (ifn Bool.false_ne_true ?_))), Ev.step (fun k => by simp only [impl_SafeSets.l0]; exact rfl) (ifp (by omega) (Ev.bind h2 (ifn Bool.false_ne_true ?_)))⟩
      · rw [wrapS hj (by omega)]; exact e1
      · rw [wrapS hj (by omega)]; exact e2
theorem both (a b o : Int) (l : List Ld) (hn : l.length ≤ 140737488355328) : ∃ r, Ev (fun k => spec_SafeSets.f k a b o l) r ∧ Ev (fun k => impl_SafeSets.f k a b o l) r := by
  have h1 := l10Cargo_ev a b o l hn
  have h2 := areCargo_ev a b o l hn
  unfold spec_SafeSets.f impl_SafeSets.f
  cases hc : CargoOK a b o l with
  | false =>
    rw [hc] at h1 h2
    exact ⟨(0, false), Ev.bind h1 (ifn (by decide) (done rfl)), Ev.bind h2 (ifn (by decide) (done rfl))⟩
  | true =>
    rw [hc] at h1 h2
    obtain ⟨r, e1, e2⟩ := loops a b o l (valid_of hc) 0 (Nat.zero_le _) 0
    exact ⟨r, Ev.bind h1 (ifp rfl e1), Ev.bind h2 (ifp rfl e2)⟩
theorem pure : Pure := by
  intro a b o l _ _ _ hl _
  obtain ⟨t, ht, hlen⟩ := szLoadS_eq l hl
  refine Ev.rounds ?_
  unfold laws_FnExactSafeSets.f
  refine somb ht (ifc (fun _ => done rfl) fun hneg => ?_)
  have hm := hlen hneg
  have hto := toLoadS_ev l (by omega)
  have hcl : (l.map cv).length ≤ 140737488355328 := by rw [List.length_map]; omega
  obtain ⟨r, e1, e2⟩ := both a b o (l.map cv) hcl
  refine somb (a := (a, b, o)) rfl (Ev.bind hto (Ev.bind e1 (Ev.bind hto (somb (a := (a, b, o)) rfl (Ev.bind e2 (ifp rfl ?_))))))
  refine Ev.step (fun k => by simp only [laws_FnExactSafeSets.j0]; exact rfl) (ifn (by simp) (Ev.bind hto (Ev.bind (eqLoadS_ev _ hcl) (ifp rfl (done rfl)))))
end Go.Proofs.Ytkpdddlecibbnaa.fnExactSafeSets
