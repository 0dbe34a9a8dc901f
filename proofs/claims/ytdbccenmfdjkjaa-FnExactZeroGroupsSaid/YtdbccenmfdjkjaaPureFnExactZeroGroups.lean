/- The plain law of FnExactZeroGroups: the program finds the groups that the reference finds. No conditions. -/
import Derived.Test.YtdbccenmfdjkjaaStatFnExactZeroGroups
import Derived.Test.YtdbccenmfdjkjaaGroups
import Derived.Test.YtdbccenmfdjkjaaTables
import Derived.Test.YtdbccenmfdjkjaaMarkLoads
namespace Go.Proofs.Ytdbccenmfdjkjaa.fnExactZeroGroups
open Go.RowKit Go.Proofs.Ytdbccenmfdjkjaa.XZg Go.Proofs.Ytdbccenmfdjkjaa.Plain Go.Proofs.Ytdbccenmfdjkjaa.PureRow Go.Proofs.Ytdbccenmfdjkjaa.PureMoment Go.Proofs.Ytdbccenmfdjkjaa.PureSubsets Go.Proofs.Ytdbccenmfdjkjaa.PureGroups Go.Proofs.Ytdbccenmfdjkjaa.PureTables Go.Proofs.YtdbccenmfdjkjaaW.PrintWords Go.Proofs.YtdbccenmfdjkjaaW.PrintLast Go.Proofs.YtdbccenmfdjkjaaW.PrintMore
set_option linter.unusedVariables false
theorem All_len (n : Nat) (hn : n ≤ 12) : (All 0 n).length ≤ 4096 := by
  rw [← (grp_all n 0).length_eq, List.length_map, List.length_range]
  have h2 : 2 ^ n ≤ 2 ^ 12 := Nat.pow_le_pow_right (by decide) hn
  have h3 : (2 : Nat) ^ 12 = 4096 := by decide
  omega
theorem Zs_small (l : List Ld) (hn : l.length ≤ 12) (p : Int) : (Zs l p).length ≤ 4096 ∧ ∀ x ∈ Zs l p, x.length ≤ 12 := by
  constructor
  · have := List.length_filter_le (PureGroups.Z l p) (All 0 l.length)
    have := All_len l.length hn
    unfold Zs; omega
  · intro x hx
    unfold Zs All at hx
    obtain ⟨t, ht, hc⟩ := List.mem_flatMap.1 (List.mem_filter.1 hx).1
    rw [List.mem_range] at ht
    have := (C_mem _ _ _ x hc).1
    omega
theorem both (l : List Ld) (hn : l.length ≤ 140737488355328) (p : Int) : ∃ r : List (List Int) × Bool, Ev (fun k => spec_ZeroGroups.f k l p) r ∧ Ev (fun k => impl_ZeroGroups.f k l p) r ∧ r.1.length ≤ 4096 ∧ ∀ x ∈ r.1, x.length ≤ 12 := by
  have h1 := l2Row_ev l hn
  have h2 := isRow_ev l hn
  unfold spec_ZeroGroups.f impl_ZeroGroups.f
  cases hr : RowOK l with
  | false =>
    rw [hr] at h1 h2
    exact ⟨([], false), Ev.bind h1 (ifn Bool.false_ne_true (done rfl)), Ev.bind h2 (ifn Bool.false_ne_true (done rfl)), Nat.zero_le _, fun x hx => (by cases hx)⟩
  | true =>
    rw [hr] at h1 h2
    cases hp : Pl p with
    | false =>
      exact ⟨([], false), Ev.bind h1 (ifp (Eq.refl true) (somb (l2In_eq p) (ifn (by rw [hp]; exact Bool.false_ne_true) (done rfl)))), Ev.bind h2 (ifp (Eq.refl true) (somb (isPlace_eq p) (ifn (by rw [hp]; exact Bool.false_ne_true) (done rfl)))), Nat.zero_le _, fun x hx => (by cases hx)⟩
    | true =>
      by_cases c : (l.length : Int) > 8
      · exact ⟨([], false), Ev.bind h1 (ifp (Eq.refl true) (somb (l2In_eq p) (ifp hp (ifp c (done rfl))))), Ev.bind h2 (ifp (Eq.refl true) (somb (isPlace_eq p) (ifp hp (ifp c (done rfl))))), Nat.zero_le _, fun x hx => (by cases hx)⟩
      · obtain ⟨z1, z2⟩ := Zs_small l (rowV hr).n p
        exact ⟨(Zs l p, true), Ev.bind h1 (ifp (Eq.refl true) (somb (l2In_eq p) (ifp hp (ifn c (Ev.bind (l9Groups_ev (rowV hr) (plV hp)) (done rfl)))))), Ev.bind h2 (ifp (Eq.refl true) (somb (isPlace_eq p) (ifp hp (ifn c (Ev.bind (zeroGroups_ev (rowV hr) (plV hp)) (done rfl)))))), z1, z2⟩
theorem pure : Pure := by
  intro l p hl _ _
  obtain ⟨t, ht, hlen⟩ := szLoadS_eq l hl
  refine Ev.rounds ?_
  unfold laws_FnExactZeroGroups.f
  refine somb ht (ifc (fun _ => done rfl) fun hneg => ?_)
  have hm := hlen hneg
  have hto := toLoadS_ev l (by omega)
  have hcl : (l.map cv).length ≤ 1048576 := by rw [List.length_map]; omega
  obtain ⟨r, e1, e2, r1, r2⟩ := both (l.map cv) (by omega) p
  have q := eqIntSS_ev r.1 (by omega) (fun x hx => by have := r2 x hx; omega)
  obtain ⟨R1, m1, _, _⟩ := PureMarkLoads.markLoadS_ev (l.map cv) hcl 1 (by omega) (by omega)
  have htot : tot r.1 ≤ 49152 := by
    have h1 := tot_le 12 r.1 r2
    omega
  obtain ⟨M, m3, k3⟩ := markIntSS_ev r.1 (by omega) (fun x hx => by have := r2 x hx; omega) (by omega)
  have h3 := heldIntSS_ev r.1 M (by omega) (fun x hx => by have := r2 x hx; omega) (by omega) k3
  have hne : ¬ ((r.2 != r.2) = true) := by simp
  have hmk : ¬ (1 + ((2 * (l.map cv).length : Nat) : Int)) < 0 := by omega
  have hneg3 : ¬ (1 + (tot r.1 : Int)) < 0 := by omega
  refine Ev.bind hto (Ev.bind e1 (Ev.bind hto (Ev.bind e2 (Ev.bind q (ifp (Eq.refl true) (ifn hne (Ev.bind hto (Ev.bind (eqLoadS_ev _ (by omega)) (ifp (Eq.refl true) (Ev.bind m1 (ifn hmk (Ev.bind m3 (Ev.bind h3 (ifn hneg3 ?_))))))))))))))
  exact ifp rfl (done rfl)
end Go.Proofs.Ytdbccenmfdjkjaa.fnExactZeroGroups
