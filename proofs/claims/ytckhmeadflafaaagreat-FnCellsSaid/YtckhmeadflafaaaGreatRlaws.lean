/- What the laws themselves ask of lists: alike, and having. No conditions beyond those of the lemmas' own hypotheses. -/
import Derived.Test.YtckhmeadflafaaaGreatCells
import Derived.Test.YtckhmeadflafaaaGreatXFcx7
import Derived.Test.YtckhmeadflafaaaGreatXFcx5
import Derived.Test.YtckhmeadflafaaaGreatXFcx8
namespace Go.Proofs.YtckhmeadflafaaaGreat.PureRlaws
open Go.RowKit YtckhmeadflafaaaGreat.XFc YtckhmeadflafaaaGreat.Plain YtckhmeadflafaaaGreat.PureCells YtckhmeadflafaaaGreatW.PrintWords YtckhmeadflafaaaGreatW.PrintLast YtckhmeadflafaaaGreatW.PrintMore
set_option linter.unusedVariables false
theorem cells_dec (a c : List Cl) (hn : a.length ≤ 1048576) : ∃ e, Ev (fun k => laws_rCells.f k a c) e ∧ (e = true ↔ a = c) := by
 unfold laws_rCells.f
 by_cases hl : (a.length : Int) = (c.length : Int)
 ·have key : ∀ i, i ≤ a.length → ∃ e, Ev (fun k => laws_rCells.l0 k a c (i : Int)) e ∧ (e = true ↔ a.drop i = c.drop i) := by
   refine downTo a.length ?_ ?_
   ·refine ⟨true, Ev.step (fun k => by simp only [laws_rCells.l0]; exact rfl) (ifn (by omega) (done rfl)), ?_⟩
    rw [List.drop_length, List.drop_eq_nil_of_le (by omega)]
    exact ⟨fun _ => rfl, fun _ => rfl⟩
   ·intro i hi ⟨e, e1, e2⟩
    have hc : i < c.length := by omega
    rw [drop_cons hi, drop_cons hc]
    by_cases h : a[i] = c[i]
    ·refine ⟨e, Ev.step (fun k => by simp only [laws_rCells.l0]; exact rfl) (ifp (by omega) (ifp (by omega) (ifp (by omega) (ifn ?_ ?_)))), ?_⟩
     ·rw [rdC hi, rdC hc, h]; simp
     ·rw [wrapS hi (by omega)]; exact e1
     ·rw [e2, h]; exact ⟨fun h => by rw [h], fun h => (List.cons.inj h).2⟩
    ·refine ⟨false, Ev.step (fun k => by simp only [laws_rCells.l0]; exact rfl) (ifp (by omega) (ifp (by omega) (ifp (by omega) (ifp ?_ (done rfl))))), ?_⟩
     ·rw [rdC hi, rdC hc]
      refine Classical.byContradiction fun hh => h ?_
      generalize a[i] = u at *
      generalize c[i] = v at *
      cases u; cases v
      simp at hh
      simp [hh.1, hh.2]
     ·exact ⟨fun hh => absurd hh Bool.false_ne_true, fun hh => absurd (List.cons.inj hh).1 h⟩
  obtain ⟨e, e1, e2⟩ := key 0 (Nat.zero_le _)
  rw [List.drop_zero, List.drop_zero] at e2
  exact ⟨e, ifp hl e1, e2⟩
 ·exact ⟨false, ifn hl (done rfl), fun h => absurd h Bool.false_ne_true, fun h => absurd (by rw [h]) hl⟩
theorem cells_refl (a : List Cl) (hn : a.length ≤ 1048576) : Ev (fun k => laws_rCells.f k a a) true := by
 obtain ⟨e, e1, e2⟩ := cells_dec a a hn
 rw [e2.2 rfl] at e1; exact e1
theorem ints_refl (a : List Int) (hn : a.length ≤ 1048576) : Ev (fun k => laws_rInts.f k a a) true := by
 have key : ∀ i, i ≤ a.length → Ev (fun k => laws_rInts.l0 k a a (i : Int)) true := by
  refine downTo a.length ?_ ?_
  ·exact Ev.step (fun k => by simp only [laws_rInts.l0]; exact rfl) (ifn (by omega) (done rfl))
  ·intro i hi ih
   refine Ev.step (fun k => by simp only [laws_rInts.l0]; exact rfl) (ifp (by omega) (ifp (by omega) (ifp (by omega) (ifp (c := rd a (i : Int) = rd a (i : Int)) rfl ?_))))
   rw [wrapS hi (by omega)]; exact ih
 unfold laws_rInts.f
 exact ifp rfl (key 0 (Nat.zero_le _))
theorem has_dec (L : List Int) (hn : L.length ≤ 1048576) (v : Int) : ∃ e, Ev (fun k => laws_rHas.f k L v) e ∧ (e = true ↔ v ∈ L) := by
 have key : ∀ i, i ≤ L.length → ∃ e, Ev (fun k => laws_rHas.l0 k L v (i : Int)) e ∧ (e = true ↔ v ∈ L.drop i) := by
  refine downTo L.length ?_ ?_
  ·refine ⟨false, Ev.step (fun k => by simp only [laws_rHas.l0]; exact rfl) (ifn (by omega) (done rfl)), ?_⟩
   rw [List.drop_length]; simp
  ·intro i hi ⟨e, e1, e2⟩
   rw [drop_cons hi]
   by_cases h : L[i] = v
   ·refine ⟨true, Ev.step (fun k => by simp only [laws_rHas.l0]; exact rfl) (ifp (by omega) (ifp (by omega) (ifp (by rw [rd_lt hi]; exact h) (done rfl)))), ?_⟩
    exact ⟨fun _ => by rw [← h]; exact List.mem_cons_self, fun _ => rfl⟩
   ·refine ⟨e, Ev.step (fun k => by simp only [laws_rHas.l0]; exact rfl) (ifp (by omega) (ifp (by omega) (ifn (by rw [rd_lt hi]; exact h) ?_))), ?_⟩
    ·rw [wrapS hi (by omega)]; exact e1
    ·rw [e2, List.mem_cons]
     exact ⟨Or.inr, fun hh => hh.resolve_left (fun e => h e.symm)⟩
 obtain ⟨e, e1, e2⟩ := key 0 (Nat.zero_le _)
 rw [List.drop_zero] at e2
 exact ⟨e, e1, e2⟩
end Go.Proofs.YtckhmeadflafaaaGreat.PureRlaws
