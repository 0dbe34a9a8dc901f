/- The ground and the middles of a body, in the program and in the reference alike. No conditions beyond those of the lemmas' own hypotheses. -/
import Derived.Test.YtckhmeadflafaaaBody
import Derived.Test.YtckhmeadflafaaaXSkx6
import Derived.Test.YtckhmeadflafaaaXSkx16
namespace Go.Proofs.Ytckhmeadflafaaa.PureGround
open Go.RowKit Go.Proofs.Ytckhmeadflafaaa.XSk Go.Proofs.Ytckhmeadflafaaa.Plain Go.Proofs.Ytckhmeadflafaaa.PureCells Go.Proofs.Ytckhmeadflafaaa.PureBody Go.Proofs.YtckhmeadflafaaaW.PrintWords Go.Proofs.YtckhmeadflafaaaW.PrintLast Go.Proofs.YtckhmeadflafaaaW.PrintMore
set_option linter.unusedVariables false
/-! ### the ground -/
/-- What the ground asks of cells: a body has it, and cells that are put down. -/
structure LaidV (l : List Cl) : Prop where
  n0 : 0 < l.length
  n1 : l.length ≤ 12
  each : ∀ x ∈ l, InR x
  mono : ∀ (i d : Nat) (h : i + d < l.length), l[i].f0 ≤ l[i + d].f0
  ground : ∃ x ∈ l, x.f1 = 0
theorem BodyV.laid {l : List Cl} (v : BodyV l) : LaidV l := ⟨v.n0, v.n1, v.each, fun i d h => v.mono i d h, v.ground⟩
/-! ### the middles -/
theorem middle0_rel (l : List Cl) (hn : l.length ≤ 12) (hr : ∀ x ∈ l, InR x) : ∀ i, i ≤ l.length → ∀ s : Int, 0 ≤ s → s ≤ 25 * (i : Int) → ∃ r, Ev (fun k => spec_l8Middle_0.l0 k l s (i : Int)) r ∧ Ev (fun k => impl_middles_0.l0 k s l (l.length : Int) (i : Int)) r ∧ 0 ≤ r ∧ r ≤ 300 := by
  refine downTo l.length ?_ ?_
  · intro s h0 h1
    exact ⟨s, Ev.step (fun k => by simp only [spec_l8Middle_0.l0]; exact rfl) (ifn (by omega) (done rfl)), Ev.step (fun k => by simp only [impl_middles_0.l0]; exact rfl) (ifn (by omega) (done rfl)), h0, by omega⟩
  · intro i hi ih s h0 h1
    obtain ⟨⟨x0, x1⟩, y0, y1⟩ := hr l[i] (List.getElem_mem hi)
    obtain ⟨r, e1, e2, e3⟩ := ih (s + 2 * l[i].f0 + 1) (by omega) (by omega)
    refine ⟨r, Ev.step (fun k => by simp only [spec_l8Middle_0.l0]; exact rfl) (ifp (by omega) (ifp (by omega) ?_)), Ev.step (fun k => by simp only [impl_middles_0.l0]; exact rfl) (ifp (by omega) (ifp (by omega) (ifp (by omega) ?_))), e3⟩
    · rw [rdC hi, wrapS hi (by omega), w64 (x := 2 * l[i].f0) (by omega) (by omega), w64 (x := s + 2 * l[i].f0) (by omega) (by omega), w64 (by omega) (by omega)]
      exact e1
    · rw [rdC hi, wrapS hi (by omega), w64 (x := 2 * l[i].f0) (by omega) (by omega), w64 (x := 2 * l[i].f0 + 1) (by omega) (by omega), w64 (by omega) (by omega), ← Int.add_assoc]
      exact e2
theorem middle0_ev (l : List Cl) (hn : l.length ≤ 12) (hr : ∀ x ∈ l, InR x) : ∃ r, Ev (fun k => spec_l8Middle_0.f k l) r ∧ Ev (fun k => impl_middles_0.f k l) r ∧ 0 ≤ r ∧ r ≤ 300 := middle0_rel l hn hr 0 (Nat.zero_le _) 0 (by omega) (by omega)
end Go.Proofs.Ytckhmeadflafaaa.PureGround
