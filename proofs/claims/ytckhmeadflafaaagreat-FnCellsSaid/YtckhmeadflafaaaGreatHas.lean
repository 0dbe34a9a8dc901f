/- Having a cell, in the program and in the reference. No conditions beyond those of the lemmas' own hypotheses. -/
import Derived.Test.YtckhmeadflafaaaGreatCells
import Derived.Test.YtckhmeadflafaaaGreatXFcx1
import Derived.Test.YtckhmeadflafaaaGreatXFcx5
namespace Go.Proofs.YtckhmeadflafaaaGreat.PureHas
open Go.RowKit YtckhmeadflafaaaGreat.XFc YtckhmeadflafaaaGreat.Plain YtckhmeadflafaaaGreat.PureCells YtckhmeadflafaaaGreatW.PrintWords YtckhmeadflafaaaGreatW.PrintLast YtckhmeadflafaaaGreatW.PrintMore
set_option linter.unusedVariables false
/-! ### having a cell -/
def hsC (a : List Cl) (x y : Int) : Bool := a.any fun e => decide (e.f0 = x ∧ e.f1 = y)
theorem has_ev (a : List Cl) (ha : a.length ≤ 1000) (x y : Int) : ∃ t, Ev (fun k => spec_l8Has.f k a x y) t ∧ (t ≥ 0 ↔ hsC a x y = true) := by
 have key : ∀ i, i ≤ a.length → ∃ t, Ev (fun k => spec_l8Has.l0 k a x y (i : Int)) t ∧ (t ≥ 0 ↔ hsC (a.drop i) x y = true) := by
  refine downTo a.length ?_ ?_
  ·refine ⟨-1, Ev.step (fun k => by simp only [spec_l8Has.l0]; exact rfl) (ifn (by omega) (done rfl)), ?_⟩
   rw [List.drop_length]; simp [hsC]
  ·intro i hi ⟨t, e1, e2⟩
   rw [drop_cons hi]
   by_cases h : a[i].f0 = x ∧ a[i].f1 = y
   ·refine ⟨(i : Int), Ev.step (fun k => by simp only [spec_l8Has.l0]; exact rfl) (ifp (by omega) (ifp (by omega) (ifp (by rw [rdC hi]; simp [h.1, h.2]) (done rfl)))), ?_⟩
    constructor
    ·intro _; unfold hsC; rw [List.any_cons, decide_eq_true h]; rfl
    ·intro _; omega
   ·refine ⟨t, Ev.step (fun k => by simp only [spec_l8Has.l0]; exact rfl) (ifp (by omega) (ifp (by omega) (ifn (by rw [rdC hi]; simpa using h) ?_))), ?_⟩
    ·rw [wrapS hi (by omega)]; exact e1
    ·rw [e2]; unfold hsC; rw [List.any_cons, decide_eq_false h]; rfl
 exact key 0 (Nat.zero_le _)
theorem contains_ev (a : List Cl) (ha : a.length ≤ 1000) (x y : Int) : Ev (fun k => slices_Contains.f k a x y) (hsC a x y) := by
 have key : ∀ i, i ≤ a.length → ∃ t, Ev (fun k => slices_Index.l0 k a (a.length : Int) (i : Int) x y) t ∧ (t ≥ 0 ↔ hsC (a.drop i) x y = true) := by
  refine downTo a.length ?_ ?_
  ·refine ⟨-1, Ev.step (fun k => by simp only [slices_Index.l0]; exact rfl) (ifn (by omega) (done rfl)), ?_⟩
   rw [List.drop_length]; simp [hsC]
  ·intro i hi ⟨t, e1, e2⟩
   rw [drop_cons hi]
   by_cases h : a[i].f0 = x ∧ a[i].f1 = y
   ·refine ⟨(i : Int), Ev.step (fun k => by simp only [slices_Index.l0]; exact rfl) (ifp (by omega) (ifp (by omega) (ifp (by omega) (ifp (by rw [rdC hi]; simp [h.1, h.2]) (done rfl))))), ?_⟩
    constructor
    ·intro _; unfold hsC; rw [List.any_cons, decide_eq_true h]; rfl
    ·intro _; omega
   ·refine ⟨t, Ev.step (fun k => by simp only [slices_Index.l0]; exact rfl) (ifp (by omega) (ifp (by omega) (ifp (by omega) (ifn (by rw [rdC hi]; intro hh; apply h; simp at hh; exact ⟨hh.1.symm, hh.2.symm⟩) ?_)))), ?_⟩
    ·rw [wrapS hi (by omega)]; exact e1
    ·rw [e2]; unfold hsC; rw [List.any_cons, decide_eq_false h]; rfl
 obtain ⟨t, e1, e2⟩ := key 0 (Nat.zero_le _)
 unfold slices_Contains.f
 refine Ev.bind (show Ev (fun k => slices_Index.f k a x y) t from e1) (done ?_)
 rw [List.drop_zero] at e2
 cases h : hsC a x y with
 | true => exact decide_eq_true (e2.2 h)
 | false => exact decide_eq_false (fun ht => by rw [e2.1 ht] at h; cases h)
end Go.Proofs.YtckhmeadflafaaaGreat.PureHas
