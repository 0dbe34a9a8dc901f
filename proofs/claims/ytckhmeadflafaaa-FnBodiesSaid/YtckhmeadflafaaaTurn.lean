/- A body turned to a side, in the program and in the reference alike. No conditions beyond those of the lemmas' own hypotheses. -/
import Derived.Test.YtckhmeadflafaaaPut
import Derived.Test.YtckhmeadflafaaaXFbx23
import Derived.Test.YtckhmeadflafaaaXFbx21
namespace Go.Proofs.Ytckhmeadflafaaa.PureTurn
open Go.RowKit Go.Proofs.Ytckhmeadflafaaa.XFb Go.Proofs.Ytckhmeadflafaaa.Plain Go.Proofs.Ytckhmeadflafaaa.PureCells Go.Proofs.Ytckhmeadflafaaa.PureBody Go.Proofs.Ytckhmeadflafaaa.PurePut Go.Proofs.YtckhmeadflafaaaW.PrintWords Go.Proofs.YtckhmeadflafaaaW.PrintLast Go.Proofs.YtckhmeadflafaaaW.PrintMore
set_option linter.unusedVariables false
def tb (s : Int) (x : Cl) : Cl := ⟨s * x.f1, -s * x.f0⟩
def Side (s : Int) : Prop := s = 1 ∨ s = -1
def Sm (x : Cl) : Prop := (-1000 ≤ x.f0 ∧ x.f0 ≤ 1000) ∧ -1000 ≤ x.f1 ∧ x.f1 ≤ 1000
theorem InR.sm {x : Cl} (h : InR x) : Sm x := by
  obtain ⟨⟨a, b⟩, c, d⟩ := h
  exact ⟨⟨by omega, by omega⟩, by omega, by omega⟩
theorem tb_wrap {s : Int} (hs : Side s) {x : Cl} (hx : Sm x) : wrap64 (s * x.f1) = (tb s x).f0 ∧ wrap64 (wrap64 (-s) * x.f0) = (tb s x).f1 := by
  obtain ⟨⟨a, b⟩, c, d⟩ := hx
  rcases hs with rfl | rfl
  · rw [w64 (x := -(1 : Int)) (by omega) (by omega)]
    exact ⟨w64 (by omega) (by omega), w64 (by omega) (by omega)⟩
  · rw [w64 (x := -(-1 : Int)) (by omega) (by omega)]
    exact ⟨w64 (by omega) (by omega), w64 (by omega) (by omega)⟩
theorem tb_small {s : Int} (hs : Side s) {l : List Cl} (h : ∀ x ∈ l, Sm x) : ∀ x ∈ l.map (tb s), Small x := by
  intro x hx
  obtain ⟨y, hy, rfl⟩ := List.mem_map.1 hx
  obtain ⟨⟨a, b⟩, c, d⟩ := h y hy
  rcases hs with rfl | rfl
  · refine ⟨⟨?_, ?_⟩, ?_, ?_⟩ <;> simp only [tb] <;> omega
  · refine ⟨⟨?_, ?_⟩, ?_, ?_⟩ <;> simp only [tb] <;> omega
theorem spec_loop {s : Int} (hs : Side s) (l : List Cl) (hn : l.length ≤ 1000) (hr : ∀ x ∈ l, Sm x) (r : List Cl) (e : Ev (fun k => spec_l8Down.f k (l.map (tb s))) r) : ∀ i, i ≤ l.length → ∀ acc, acc = (l.take i).map (tb s) → Ev (fun k => spec_l8Turn.l0 k l s acc (i : Int)) r := by
  refine downTo l.length ?_ ?_
  · intro acc h
    rw [List.take_length] at h
    subst h
    exact Ev.step (fun k => by simp only [spec_l8Turn.l0]; exact rfl) (ifn (by omega) (Ev.bind e (done rfl)))
  · intro i hi ih acc h
    have hal : acc.length = i := by rw [h, List.length_map, List.length_take]; omega
    obtain ⟨e1, e2⟩ := tb_wrap hs (hr l[i] (List.getElem_mem hi))
    refine Ev.step (fun k => by simp only [spec_l8Turn.l0]; exact rfl) (ifp (by omega) (ifp (by omega) (ifp (by omega) ?_)))
    rw [rdC hi, wrapS hi (by omega), e1, e2]
    refine ih _ ?_
    rw [h, take_succ hi, List.map_append]
    rfl
theorem impl_loop {s : Int} (hs : Side s) (l : List Cl) (hn : l.length ≤ 1000) (hr : ∀ x ∈ l, Sm x) (r : List Cl) (e : Ev (fun k => impl_put.f k (l.map (tb s))) r) : ∀ i, i ≤ l.length → ∀ acc, acc = (l.take i).map (tb s) → Ev (fun k => impl_cellsBy_turnBody_1.l0 s k acc l (l.length : Int) (i : Int)) r := by
  refine downTo l.length ?_ ?_
  · intro acc h
    rw [List.take_length] at h
    subst h
    exact Ev.step (fun k => by simp only [impl_cellsBy_turnBody_1.l0]; exact rfl) (ifn (by omega) (Ev.bind e (done rfl)))
  · intro i hi ih acc h
    have hal : acc.length = i := by rw [h, List.length_map, List.length_take]; omega
    obtain ⟨e1, e2⟩ := tb_wrap hs (hr l[i] (List.getElem_mem hi))
    refine Ev.step (fun k => by simp only [impl_cellsBy_turnBody_1.l0]; exact rfl) (ifp (by omega) (ifp (by omega) (ifp (by omega) ?_)))
    rw [rdC hi, wrapS hi (by omega)]
    refine somb (a := ((tb s l[i]).f0, (tb s l[i]).f1)) ?_ (ifp (by omega) ?_)
    · unfold impl_turnBody_1.f
      rw [e1, e2]
    · refine ih _ ?_
      rw [h, take_succ hi, List.map_append]
      rfl
theorem tb_pos (s : Int) {l : List Cl} (h : 0 < l.length) : 0 < (l.map (tb s)).length := by rw [List.length_map]; exact h
theorem turn_ev {s : Int} (hs : Side s) (l : List Cl) (h0 : 0 < l.length) (hn : l.length ≤ 1000) (hr : ∀ x ∈ l, Sm x) : Ev (fun k => spec_l8Turn.f k l s) (pd (l.map (tb s)) (tb_pos s h0)) ∧ Ev (fun k => impl_turnBody.f k l s) (pd (l.map (tb s)) (tb_pos s h0)) := by
  have hsm := tb_small hs hr
  have f1 := l8Down_ev (l.map (tb s)) (tb_pos s h0) (by rw [List.length_map]; omega) hsm
  have f2 := put_ev (l.map (tb s)) (tb_pos s h0) (by rw [List.length_map]; omega) hsm
  exact ⟨spec_loop hs l hn hr _ f1 0 (Nat.zero_le _) [] rfl, impl_loop hs l hn hr _ f2 0 (Nat.zero_le _) [] rfl⟩
end Go.Proofs.Ytckhmeadflafaaa.PureTurn
