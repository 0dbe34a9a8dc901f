/- Moments of rows, in the program and in the reference alike. No conditions beyond those of the lemmas' own hypotheses. -/
import Derived.Test.YtbjilpmnhghfhaaRow
import Derived.Test.YtbjilpmnhghfhaaXChx18
namespace Go.Proofs.Ytbjilpmnhghfhaa.PureMoment
open Go.RowKit Go.Proofs.Ytbjilpmnhghfhaa.XCh Go.Proofs.Ytbjilpmnhghfhaa.Plain Go.Proofs.Ytbjilpmnhghfhaa.PureRow Go.Proofs.YtbjilpmnhghfhaaW.PrintWords Go.Proofs.YtbjilpmnhghfhaaW.PrintLast Go.Proofs.YtbjilpmnhghfhaaW.PrintMore
set_option linter.unusedVariables false

structure RowV (l : List Ld) : Prop where
  n : l.length ≤ 12
  each : ∀ x ∈ l, 0 ≤ x.f0 ∧ x.f0 ≤ 60 ∧ 1 ≤ x.f1 ∧ x.f1 ≤ 99
theorem rowV {l : List Ld} (h : RowOK l = true) : RowV l := by
  unfold RowOK at h
  simp only [Bool.and_eq_true, decide_eq_true_eq, List.all_eq_true] at h
  refine ⟨h.1, fun x hx => ?_⟩
  have := h.2 x hx
  unfold LdOK Pl Wt at this
  simp only [Bool.and_eq_true, decide_eq_true_eq] at this
  omega
theorem plV {p : Int} (h : Pl p = true) : 0 ≤ p ∧ p ≤ 60 := by unfold Pl at h; simpa using h

/-- The moment of loads about a place. -/
def mom (p : Int) : List Ld → Int
  | [] => 0
  | x :: r => x.f1 * (x.f0 - p) + mom p r
theorem one_le {w d : Int} (h0 : 1 ≤ w) (h1 : w ≤ 99) (d0 : -60 ≤ d) (d1 : d ≤ 60) : -5940 ≤ w * d ∧ w * d ≤ 5940 := by
  have p1 : 0 ≤ w * (60 - d) := Int.mul_nonneg (by omega) (by omega)
  have p2 : 0 ≤ w * (60 + d) := Int.mul_nonneg (by omega) (by omega)
  rw [Int.mul_sub] at p1
  rw [Int.mul_add] at p2
  omega
theorem mom_le (p : Int) (hp : 0 ≤ p ∧ p ≤ 60) : ∀ l : List Ld, (∀ x ∈ l, 0 ≤ x.f0 ∧ x.f0 ≤ 60 ∧ 1 ≤ x.f1 ∧ x.f1 ≤ 99) → -5940 * (l.length : Int) ≤ mom p l ∧ mom p l ≤ 5940 * (l.length : Int) := by
  intro l
  induction l with
  | nil => intro _; simp [mom]
  | cons x r ih =>
    intro h
    have h1 := ih (fun y hy => h y (List.mem_cons_of_mem _ hy))
    have h2 := h x (List.mem_cons_self ..)
    have h3 := one_le h2.2.2.1 h2.2.2.2 (d := x.f0 - p) (by omega) (by omega)
    simp only [mom, List.length_cons]
    omega
theorem step_eq {l : List Ld} (h : RowV l) {p : Int} (hp : 0 ≤ p ∧ p ≤ 60) {i : Nat} (hi : i < l.length) {acc : Int} (ha : -100000 ≤ acc ∧ acc ≤ 100000) :
    wrap64 (acc + (wrap64 (((rd_T85 l (i : Int)).f1) * (wrap64 (((rd_T85 l (i : Int)).f0) - p))))) = acc + l[i].f1 * (l[i].f0 - p) := by
  rw [rdL hi]
  have h2 := h.each l[i] (List.getElem_mem hi)
  have h3 := one_le h2.2.2.1 h2.2.2.2 (d := l[i].f0 - p) (by omega) (by omega)
  rw [w64 (x := l[i].f0 - p) (by omega) (by omega)]
  generalize l[i].f1 * (l[i].f0 - p) = y at *
  rw [w64 (x := y) (by omega) (by omega), w64 (by omega) (by omega)]
theorem impl_l0 {l : List Ld} (h : RowV l) {p : Int} (hp : 0 ≤ p ∧ p ≤ 60) : ∀ i, i ≤ l.length → ∀ acc : Int, -5940 * (i : Int) ≤ acc ∧ acc ≤ 5940 * (i : Int) → Ev (fun k => impl_momentAbout.l0 k p acc l (l.length : Int) (i : Int)) (acc + mom p (l.drop i)) := by
  have hn := h.n
  refine downTo l.length ?_ ?_
  · intro acc ha
    rw [List.drop_length]
    exact Ev.step (fun k => by simp only [impl_momentAbout.l0]; exact rfl) (ifn (by omega) (done (by simp [mom])))
  · intro i hi ih acc ha
    have h2 := h.each l[i] (List.getElem_mem hi)
    have h3 := one_le h2.2.2.1 h2.2.2.2 (d := l[i].f0 - p) (by omega) (by omega)
    refine Ev.step (fun k => by simp only [impl_momentAbout.l0]; exact rfl) (ifp (by omega) (ifp (by omega) (ifp (by omega) ?_)))
    rw [step_eq h hp hi (by omega), wrapS hi (by omega), drop_cons hi, mom, ← Int.add_assoc]
    exact ih _ (by omega)
theorem momentAbout_ev {l : List Ld} (h : RowV l) {p : Int} (hp : 0 ≤ p ∧ p ≤ 60) : Ev (fun k => impl_momentAbout.f k l p) (mom p l) := by
  have := impl_l0 h hp 0 (Nat.zero_le _) 0 (by simp)
  simpa [impl_momentAbout.f] using this
theorem MomentAbout_ev (l : List Ld) (hn : l.length ≤ 140737488355328) (p : Int) : Ev (fun k => impl_MomentAbout.f k l p) (if RowOK l && Pl p then (mom p l, true) else (0, false)) := by
  unfold impl_MomentAbout.f
  have h1 := isRow_ev l hn
  cases hr : RowOK l with
  | false => rw [hr] at h1; exact Ev.bind h1 (ifn Bool.false_ne_true (done rfl))
  | true =>
    rw [hr] at h1
    refine Ev.bind h1 (ifp (Eq.refl true) (somb (isPlace_eq p) ?_))
    cases hp : Pl p with
    | false => exact ifn Bool.false_ne_true (done rfl)
    | true => exact ifp (Eq.refl true) (Ev.bind (momentAbout_ev (rowV hr) (plV hp)) (done rfl))
end Go.Proofs.Ytbjilpmnhghfhaa.PureMoment
