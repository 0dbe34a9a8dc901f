/- The ground and the middles of a body, in the program and in the reference alike. No conditions beyond those of the lemmas' own hypotheses. -/
import Derived.Test.YtckhmeadflafaaaGreatBody
import Derived.Test.YtckhmeadflafaaaGreatXFcx5
namespace Go.Proofs.YtckhmeadflafaaaGreat.PureGround
open Go.RowKit YtckhmeadflafaaaGreat.XFc YtckhmeadflafaaaGreat.Plain YtckhmeadflafaaaGreat.PureCells YtckhmeadflafaaaGreat.PureBody YtckhmeadflafaaaGreatW.PrintWords YtckhmeadflafaaaGreatW.PrintLast YtckhmeadflafaaaGreatW.PrintMore
set_option linter.unusedVariables false
/-! ### the ground -/
/-- What the ground asks of cells: a body has it, and cells that are put down. -/
structure LaidV (l : List Cl) : Prop where
 n0 : 0 < l.length
 n1 : l.length ≤ 12
 each : ∀ x ∈ l, InR x
 mono : ∀ (i d : Nat) (h : i + d < l.length), l[i].f0 ≤ l[i + d].f0
 ground : ∃ x ∈ l, x.f1 = 0
theorem BodyV.laid {l : List Cl} (v : BodyV l) : LaidV l := ⟨v.n0, v.n1, v.each, fun i d h => v.mono i d h, v.ground⟩
theorem ground_rel (l : List Cl) (v : LaidV l) : ∀ i, i ≤ l.length → ∀ low high from_ to_ : Int, ((low = -1 ∧ high = -1 ∧ from_ = 12 ∧ to_ = 0 ∧ ∃ j, ∃ h : j < l.length, i ≤ j ∧ l[j].f1 = 0) ∨ (low = from_ ∧ high = to_ ∧ (0 ≤ low ∧ low ≤ 12) ∧ (low + 1 ≤ high ∧ high ≤ 13) ∧ ∀ j, (h : j < l.length) → i ≤ j → high - 1 ≤ l[j].f0)) → ∃ a b, Ev (fun k => spec_l8Ground.l0 k l low high (i : Int)) (a, b) ∧ Ev (fun k => impl_groundOf.l0 k from_ to_ l (l.length : Int) (i : Int)) (a, b) ∧ (0 ≤ a ∧ a ≤ 12) ∧ 1 ≤ b ∧ b ≤ 13 := by
 refine downTo l.length ?_ ?_
 ·intro low high from_ to_ h
  rcases h with ⟨_, _, _, _, j, hj, hij, _⟩ | ⟨rfl, rfl, h1, h2, h3⟩
  ·omega
  ·exact ⟨low, high, Ev.step (fun k => by simp only [spec_l8Ground.l0]; exact rfl) (ifn (by omega) (done rfl)), Ev.step (fun k => by simp only [impl_groundOf.l0]; exact rfl) (ifn (by omega) (done rfl)), h1, by omega⟩
 ·intro i hi ih low high from_ to_ h
  have hn1 := v.n1
  have hi0 : 0 ≤ (i : Int) := by omega
  have hil : (i : Int) < (l.length : Int) := by omega
  have hw : wrap64 ((i : Int) + 1) = ((i + 1 : Nat) : Int) := wrapS hi (by omega)
  have hr := v.each l[i] (List.getElem_mem hi)
  obtain ⟨⟨x0, x1⟩, y0, y1⟩ := hr
  have hx1 : wrap64 (l[i].f0 + 1) = l[i].f0 + 1 := w64 (by omega) (by omega)
  by_cases hy : l[i].f1 = 0
  ·have hnext : ∀ j, (h : j < l.length) → i + 1 ≤ j → l[i].f0 + 1 - 1 ≤ l[j].f0 := by
    intro j hj hij
    have := v.mono i (j - i) (by omega)
    have e : l[i + (j - i)]'(by omega) = l[j] := by congr 1; omega
    rw [e] at this
    omega
   rcases h with ⟨rfl, rfl, rfl, rfl, _⟩ | ⟨rfl, rfl, h1, h2, h3⟩
   ·obtain ⟨a, b, e1, e2, e3⟩ := ih l[i].f0 (l[i].f0 + 1) l[i].f0 (l[i].f0 + 1) (Or.inr ⟨rfl, rfl, ⟨x0, x1⟩, ⟨by omega, by omega⟩, hnext⟩)
    refine ⟨a, b, Ev.step (fun k => by simp only [spec_l8Ground.l0]; exact rfl) (ifp hil (ifp hi0 ?_)), Ev.step (fun k => by simp only [impl_groundOf.l0]; exact rfl) (ifp hil (ifp hi0 (ifp hil ?_))), e3⟩
    ·rw [rdC hi, hw, hx1]
     exact ifp hy (ifp (by omega) e1)
    ·rw [rdC hi, hw, hx1, show mn 12 l[i].f0 = l[i].f0 from by unfold mn; split <;> omega, show mx 0 (l[i].f0 + 1) = l[i].f0 + 1 from by unfold mx; split <;> omega]
     exact ifp hy e2
   ·have hh := h3 i hi (Nat.le_refl _)
    obtain ⟨a, b, e1, e2, e3⟩ := ih low (l[i].f0 + 1) low (l[i].f0 + 1) (Or.inr ⟨rfl, rfl, h1, ⟨by omega, by omega⟩, hnext⟩)
    refine ⟨a, b, Ev.step (fun k => by simp only [spec_l8Ground.l0]; exact rfl) (ifp hil (ifp hi0 ?_)), Ev.step (fun k => by simp only [impl_groundOf.l0]; exact rfl) (ifp hil (ifp hi0 (ifp hil ?_))), e3⟩
    ·rw [rdC hi, hw, hx1]
     exact ifp hy (ifn (by omega) e1)
    ·rw [rdC hi, hw, hx1, show mn low l[i].f0 = low from by unfold mn; split <;> omega, show mx high (l[i].f0 + 1) = l[i].f0 + 1 from by unfold mx; split <;> omega]
     exact ifp hy e2
  ·obtain ⟨a, b, e1, e2, e3⟩ := ih low high from_ to_ (by
    rcases h with ⟨h1, h2, h3, h4, j, hj, hij, h5⟩ | ⟨h1, h2, h3, h4, h5⟩
    ·refine Or.inl ⟨h1, h2, h3, h4, j, hj, ?_, h5⟩
     by_cases e : j = i
     ·subst e; exact absurd h5 hy
     ·omega
    ·exact Or.inr ⟨h1, h2, h3, h4, fun j hj hij => h5 j hj (by omega)⟩)
   refine ⟨a, b, Ev.step (fun k => by simp only [spec_l8Ground.l0]; exact rfl) (ifp hil (ifp hi0 ?_)), Ev.step (fun k => by simp only [impl_groundOf.l0]; exact rfl) (ifp hil (ifp hi0 (ifp hil ?_))), e3⟩
   ·rw [rdC hi, hw]; exact ifn hy e1
   ·rw [rdC hi, hw]; exact ifn hy e2
theorem ground_ev (l : List Cl) (v : LaidV l) : ∃ a b, Ev (fun k => spec_l8Ground.f k l) (a, b) ∧ Ev (fun k => impl_groundOf.f k l) (a, b) ∧ (0 ≤ a ∧ a ≤ 12) ∧ 1 ≤ b ∧ b ≤ 13 := by
 obtain ⟨x, hx, hx0⟩ := v.ground
 obtain ⟨j, hj, rfl⟩ := List.getElem_of_mem hx
 exact ground_rel l v 0 (Nat.zero_le _) (-1) (-1) 12 0 (Or.inl ⟨rfl, rfl, rfl, rfl, j, hj, Nat.zero_le _, hx0⟩)
/-! ### the middles -/
theorem middle0_rel (l : List Cl) (hn : l.length ≤ 12) (hr : ∀ x ∈ l, InR x) : ∀ i, i ≤ l.length → ∀ s : Int, 0 ≤ s → s ≤ 25 * (i : Int) → ∃ r, Ev (fun k => spec_l8Middle_0.l0 k l s (i : Int)) r ∧ Ev (fun k => impl_middles_0.l0 k s l (l.length : Int) (i : Int)) r ∧ 0 ≤ r ∧ r ≤ 300 := by
 refine downTo l.length ?_ ?_
 ·intro s h0 h1
  exact ⟨s, Ev.step (fun k => by simp only [spec_l8Middle_0.l0]; exact rfl) (ifn (by omega) (done rfl)), Ev.step (fun k => by simp only [impl_middles_0.l0]; exact rfl) (ifn (by omega) (done rfl)), h0, by omega⟩
 ·intro i hi ih s h0 h1
  obtain ⟨⟨x0, x1⟩, y0, y1⟩ := hr l[i] (List.getElem_mem hi)
  obtain ⟨r, e1, e2, e3⟩ := ih (s + 2 * l[i].f0 + 1) (by omega) (by omega)
  refine ⟨r, Ev.step (fun k => by simp only [spec_l8Middle_0.l0]; exact rfl) (ifp (by omega) (ifp (by omega) ?_)), Ev.step (fun k => by simp only [impl_middles_0.l0]; exact rfl) (ifp (by omega) (ifp (by omega) (ifp (by omega) ?_))), e3⟩
  ·rw [rdC hi, wrapS hi (by omega), w64 (x := 2 * l[i].f0) (by omega) (by omega), w64 (x := s + 2 * l[i].f0) (by omega) (by omega), w64 (by omega) (by omega)]
   exact e1
  ·rw [rdC hi, wrapS hi (by omega), w64 (x := 2 * l[i].f0) (by omega) (by omega), w64 (x := 2 * l[i].f0 + 1) (by omega) (by omega), w64 (by omega) (by omega), ← Int.add_assoc]
   exact e2
theorem middle0_ev (l : List Cl) (hn : l.length ≤ 12) (hr : ∀ x ∈ l, InR x) : ∃ r, Ev (fun k => spec_l8Middle_0.f k l) r ∧ Ev (fun k => impl_middles_0.f k l) r ∧ 0 ≤ r ∧ r ≤ 300 := middle0_rel l hn hr 0 (Nat.zero_le _) 0 (by omega) (by omega)
end Go.Proofs.YtckhmeadflafaaaGreat.PureGround
