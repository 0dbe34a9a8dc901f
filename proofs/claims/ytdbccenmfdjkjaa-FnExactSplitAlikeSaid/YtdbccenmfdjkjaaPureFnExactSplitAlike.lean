/- The plain law of FnExactSplitAlike: the program splits as the reference does. No conditions. -/
import Derived.Test.YtdbccenmfdjkjaaStatFnExactSplitAlike
import Derived.Test.YtdbccenmfdjkjaaSplit
import Derived.Test.YtdbccenmfdjkjaaInts
import Derived.Test.YtdbccenmfdjkjaaHeldInts
import Derived.Test.YtdbccenmfdjkjaaMarkLoads
namespace Go.Proofs.Ytdbccenmfdjkjaa.fnExactSplitAlike
open Go.RowKit Go.Proofs.Ytdbccenmfdjkjaa.XSa Go.Proofs.Ytdbccenmfdjkjaa.Plain Go.Proofs.Ytdbccenmfdjkjaa.PureRow Go.Proofs.Ytdbccenmfdjkjaa.PureSplit Go.Proofs.Ytdbccenmfdjkjaa.PureInts Go.Proofs.Ytdbccenmfdjkjaa.PureMarkInts Go.Proofs.Ytdbccenmfdjkjaa.PureHeldInts Go.Proofs.YtdbccenmfdjkjaaW.PrintWords Go.Proofs.YtdbccenmfdjkjaaW.PrintLast Go.Proofs.YtdbccenmfdjkjaaW.PrintMore
set_option linter.unusedVariables false
theorem pure : Pure := by
  intro l hl _
  obtain ⟨t, ht, hlen⟩ := szLoadS_eq l hl
  refine Ev.rounds ?_
  unfold laws_FnExactSplitAlike.f
  refine somb ht (ifc (fun _ => done rfl) fun hneg => ?_)
  have hm := hlen hneg
  have hto := toLoadS_ev l (by omega)
  have hcl : (l.map cv).length ≤ 1048576 := by rw [List.length_map]; omega
  obtain ⟨e1, e2⟩ := split_ev (l.map cv) (by omega)
  have hr := split_len (l.map cv)
  generalize split (l.map cv) = r at *
  have q := eqIntS_ev r.1 (by omega)
  obtain ⟨R1, m1, _, _⟩ := PureMarkLoads.markLoadS_ev (l.map cv) hcl 1 (by omega) (by omega)
  obtain ⟨R3, m3, m3l, m3r⟩ := markIntS_ev r.1 (by omega) 1 (by omega) (by omega)
  have h3 := heldIntS_ev R3 r.1.length m3l (by omega) 1 (by omega) (by omega) m3r
  have hneg3 : ¬ (1 + (r.1.length : Int)) < 0 := by omega
  have hne : ¬ ((r.2 != r.2) = true) := by simp
  have hmk : ¬ (1 + ((2 * (l.map cv).length : Nat) : Int)) < 0 := by omega
  have fin : Ev (fun k => (laws_heldIntS.f k R3 1).bind fun t255 => (if t255 < 0 then (none) else (if t255 = 1 + (r.1.length : Int) then (some true) else (none)))) true := Ev.bind h3 (ifn hneg3 (ifp rfl (done rfl)))
  refine Ev.bind hto (Ev.bind e1 (Ev.bind hto (Ev.bind e2 (Ev.bind q (ifp (Eq.refl true) (ifn hne (Ev.bind hto (Ev.bind (eqLoadS_ev _ (by omega)) (ifp (Eq.refl true) (Ev.bind m1 (ifn hmk (Ev.bind q (ifp (Eq.refl true) (Ev.bind m3 (Ev.bind h3 (ifn hneg3 (ifp rfl (Ev.bind hto (Ev.bind e2 (Ev.bind q (ifp (Eq.refl true) (ifn hne ?_))))))))))))))))))))))
  exact fin
end Go.Proofs.Ytdbccenmfdjkjaa.fnExactSplitAlike
