/- Stages, chains and kits that are drawn. No conditions beyond those of the lemmas' own hypotheses. -/
import Derived.Test.YtbjilpmnhghfhaaDraw
import Derived.Test.YtbjilpmnhghfhaaXChx4
import Derived.Test.YtbjilpmnhghfhaaXChx5
namespace Go.Proofs.Ytbjilpmnhghfhaa.PureDrawStage
open Go.RowKit Go.Proofs.Ytbjilpmnhghfhaa.XCh Go.Proofs.Ytbjilpmnhghfhaa.Plain Go.Proofs.Ytbjilpmnhghfhaa.PureDraw Go.Proofs.YtbjilpmnhghfhaaW.PrintWords Go.Proofs.YtbjilpmnhghfhaaW.PrintLast Go.Proofs.YtbjilpmnhghfhaaW.PrintMore
set_option linter.unusedVariables false
abbrev Ds := S37
theorem somx {α β : Type} {a : α} {o : Option α} {f : Nat → α → Option β} {r : β} (h : o = some a) (k : Ev (fun n => f n a) r) : Ev (fun n => o.bind (f n)) r := somb h k
theorem small_of {x : Int} {L : List Int} (h : x ∈ L) (m : Int) (hm : L.all (fun y => decide (y ≤ m)) = true) : x ≤ m := by
  have := List.all_eq_true.1 hm x h
  simpa using this
theorem stage7_j0 {l : List Int} (hl : Bytes l) (a s : Int) (h0 : 0 ≤ a) (h1 : a ≤ 4611686018427380000) (x y z : Int) : ∃ x2 y2 z2 a' s' : Int, Ev (fun k => spec_l1Cur_stage7.j0 k l a s x y z) (x2, y2, z2, a', s') ∧ 0 ≤ a' ∧ a' ≤ a + 4 := by
  obtain ⟨n, a1, s1, e1, _, b0, b1⟩ := pick_ev hl a s h0 (by omega) 40 (by omega)
  by_cases c0 : n = 0
  · obtain ⟨u, a2, s2, e2, _, b2, b3⟩ := among_ev hl a1 s1 (by omega) (by omega) [0, -1, 24, 25] (by decide) (by decide)
    refine ⟨x, u, z, a2, s2, Ev.step (fun k => by simp only [spec_l1Cur_stage7.j0]; exact rfl) (somx e1 (ifp c0 (somx e2 ?_))), by omega, by omega⟩
    exact done rfl
  · by_cases c1 : n = 1
    · obtain ⟨u, a2, s2, e2, _, b2, b3⟩ := among_ev hl a1 s1 (by omega) (by omega) [0, 24, 25, -1] (by decide) (by decide)
      refine ⟨x, y, u, a2, s2, Ev.step (fun k => by simp only [spec_l1Cur_stage7.j0]; exact rfl) (somx e1 (ifn c0 (ifp c1 (somx e2 ?_)))), by omega, by omega⟩
      exact done rfl
    · by_cases c2 : n = 2
      · obtain ⟨u, a2, s2, e2, _, b2, b3⟩ := among_ev hl a1 s1 (by omega) (by omega) [0, 6, -1] (by decide) (by decide)
        refine ⟨u, y, z, a2, s2, Ev.step (fun k => by simp only [spec_l1Cur_stage7.j0]; exact rfl) (somx e1 (ifn c0 (ifn c1 (ifp c2 (somx e2 ?_))))), by omega, by omega⟩
        exact done rfl
      · exact ⟨x, y, z, a1, s1, Ev.step (fun k => by simp only [spec_l1Cur_stage7.j0]; exact rfl) (somx e1 (ifn c0 (ifn c1 (ifn c2 (done rfl))))), by omega, by omega⟩
theorem stage7_ev {l : List Int} (hl : Bytes l) (a s : Int) (h0 : 0 ≤ a) (h1 : a ≤ 4611686018427370000) : ∃ x y z a' s' : Int, Ev (fun k => spec_l1Cur_stage7.f k l a s) (x, y, z, a', s') ∧ 0 ≤ a' ∧ a' ≤ a + 10 := by
  obtain ⟨x, a1, s1, e1, _, b0, b1⟩ := among_ev hl a s h0 (by omega) [1, 2, 3, 4, 5] (by decide) (by decide)
  obtain ⟨y, a2, s2, e2, _, b2, b3⟩ := pick_ev hl a1 s1 (by omega) (by omega) 6 (by omega)
  obtain ⟨z, a3, s3, e3, _, b4, b5⟩ := pick_ev hl a2 s2 (by omega) (by omega) 4 (by omega)
  unfold spec_l1Cur_stage7.f
  have go : ∀ u v w : Int, ∃ x2 y2 z2 a' s' : Int, Ev (fun k => spec_l1Cur_stage7.j0 k l a3 s3 u v w) (x2, y2, z2, a', s') ∧ 0 ≤ a' ∧ a' ≤ a3 + 4 := fun u v w => stage7_j0 hl a3 s3 (by omega) (by omega) u v w
  by_cases c2 : x = 2
  · obtain ⟨x2, y2, z2, a4, s4, e, p0, p1⟩ := go x (wrap64 (1 + y)) 0
    exact ⟨x2, y2, z2, a4, s4, somx e1 (somx e2 (somx e3 (ifp c2 e))), p0, by omega⟩
  · by_cases c4 : x = 4
    · unfold spec_l1Most.f
      by_cases cm : wrap64 (1 + y) > wrap64 (1 + z)
      · obtain ⟨x2, y2, z2, a4, s4, e, p0, p1⟩ := go x (wrap64 (1 + y)) (wrap64 (1 + z))
        exact ⟨x2, y2, z2, a4, s4, somx e1 (somx e2 (somx e3 (ifn c2 (ifp c4 (somx (if_pos cm) e))))), p0, by omega⟩
      · obtain ⟨x2, y2, z2, a4, s4, e, p0, p1⟩ := go x (wrap64 (1 + z)) (wrap64 (1 + z))
        exact ⟨x2, y2, z2, a4, s4, somx e1 (somx e2 (somx e3 (ifn c2 (ifp c4 (somx (if_neg cm) e))))), p0, by omega⟩
    · by_cases c5 : x = 5
      · obtain ⟨x2, y2, z2, a4, s4, e, p0, p1⟩ := go x (wrap64 ((wrap64 (1 + z)) + (wrap64 (1 + y)))) (wrap64 (1 + z))
        exact ⟨x2, y2, z2, a4, s4, somx e1 (somx e2 (somx e3 (ifn c2 (ifn c4 (ifp c5 e))))), p0, by omega⟩
      · obtain ⟨x2, y2, z2, a4, s4, e, p0, p1⟩ := go x (wrap64 (1 + y)) (wrap64 (1 + z))
        exact ⟨x2, y2, z2, a4, s4, somx e1 (somx e2 (somx e3 (ifn c2 (ifn c4 (ifn c5 e))))), p0, by omega⟩
theorem chain7_l1 {l : List Int} (a s : Int) : ∀ d : Nat, ∀ acc : List Ds, acc.length + d = 6 → ∃ r : List Ds, Ev (fun k => spec_l1Cur_chain7.l1 k acc l a s) (r, a, s) ∧ r.length ≤ 6 := by
  intro d
  induction d with
  | zero => intro acc h; exact ⟨acc, Ev.step (fun k => by simp only [spec_l1Cur_chain7.l1]; exact rfl) (ifn (by omega) (done rfl)), by omega⟩
  | succ d ih =>
    intro acc h
    obtain ⟨r, e, hr⟩ := ih (acc ++ [⟨2, 2, 0⟩]) (by rw [List.length_append, List.length_singleton]; omega)
    exact ⟨r, Ev.step (fun k => by simp only [spec_l1Cur_chain7.l1]; exact rfl) (ifp (by omega) (ifp (by omega) e)), hr⟩
theorem chain7_l0 {l : List Int} (hl : Bytes l) : ∀ d : Nat, ∀ (n : Int), n.toNat = d → ∀ acc : List Ds, acc.length + d ≤ 6 → ∀ a s : Int, 0 ≤ a → a + 10 * (d : Int) ≤ 4611686018427370000 → ∃ (r : List Ds) (a' s' : Int), Ev (fun k => spec_l1Cur_chain7.l0 k acc n l a s) (r, a', s') ∧ r.length ≤ 6 ∧ 0 ≤ a' ∧ a' ≤ a + 10 * (d : Int) + 4 := by
  intro d
  induction d with
  | zero =>
    intro n hn acc hacc a s h0 h1
    obtain ⟨b, a1, s1, e1, b0, b1⟩ := one_ev hl a s h0 (by omega) 40 (by omega)
    cases b with
    | true =>
      obtain ⟨r, e, hr⟩ := chain7_l1 (l := l) a1 s1 (6 - acc.length) acc (by omega)
      exact ⟨r, a1, s1, Ev.step (fun k => by simp only [spec_l1Cur_chain7.l0]; exact rfl) (ifn (by omega) (somx e1 (ifp (Eq.refl true) e))), hr, by omega, by omega⟩
    | false => exact ⟨acc, a1, s1, Ev.step (fun k => by simp only [spec_l1Cur_chain7.l0]; exact rfl) (ifn (by omega) (somx e1 (ifn Bool.false_ne_true (done rfl)))), by omega, by omega, by omega⟩
  | succ d ih =>
    intro n hn acc hacc a s h0 h1
    obtain ⟨x, y, z, a1, s1, e1, b0, b1⟩ := stage7_ev hl a s h0 (by omega)
    have hw : wrap64 (n - 1) = n - 1 := w64 (by omega) (by omega)
    have hlim : acc.length < 5864062014805 := by omega
    obtain ⟨r, a', s', e, h2, h3, h4⟩ := ih (n - 1) (by omega) (acc ++ [⟨x, y, z⟩]) (by rw [List.length_append, List.length_singleton]; omega) a1 s1 (by omega) (by omega)
    refine ⟨r, a', s', Ev.step (fun k => by simp only [spec_l1Cur_chain7.l0]; exact rfl) (ifp (by omega) (Ev.bind e1 (ifp hlim ?_))), h2, h3, by omega⟩
    rw [hw]; exact e
theorem chain7_ev {l : List Int} (hl : Bytes l) (a s : Int) (h0 : 0 ≤ a) (h1 : a ≤ 4611686018427360000) : ∃ (r : List Ds) (a' s' : Int), Ev (fun k => spec_l1Cur_chain7.f k l a s) (r, a', s') ∧ r.length ≤ 6 ∧ 0 ≤ a' ∧ a' ≤ a + 100 := by
  obtain ⟨x, a1, s1, e1, hx, b0, b1⟩ := among_ev hl a s h0 (by omega) [2, 1, 3, 0, 4] (by decide) (by decide)
  have hx6 := small_of hx 4 (by decide)
  unfold spec_l1Cur_chain7.f
  obtain ⟨r, a', s', e, h2, h3, h4⟩ := chain7_l0 hl x.toNat x rfl [] (by simp only [List.length_nil]; omega) a1 s1 (by omega) (by omega)
  exact ⟨r, a', s', somx e1 e, h2, h3, by omega⟩
theorem haul7_ev {l : List Int} (hl : Bytes l) (a s : Int) (h0 : 0 ≤ a) (h1 : a ≤ 4611686018427360000) : ∃ x a' s' : Int, Ev (fun k => spec_l1Cur_haul7.f l a s) (x, a', s') ∧ 0 ≤ a' ∧ a' ≤ a + 100 := by
  obtain ⟨b, a1, s1, e1, b0, b1⟩ := one_ev hl a s h0 (by omega) 20 (by omega)
  unfold spec_l1Cur_haul7.f
  cases b with
  | true =>
    obtain ⟨x, a2, s2, e2, _, b2, b3⟩ := among_ev hl a1 s1 (by omega) (by omega) [-1, 1000000, 1000001, 4611686018427387904] (by decide) (by decide)
    refine ⟨x, a2, s2, somx e1 (ifp (Eq.refl true) (somx e2 ?_)), by omega, by omega⟩
    exact done rfl
  | false =>
    obtain ⟨x, a2, s2, e2, _, b2, b3⟩ := pick_ev hl a1 s1 (by omega) (by omega) 200 (by omega)
    refine ⟨x, a2, s2, somx e1 (ifn Bool.false_ne_true (somx e2 ?_)), by omega, by omega⟩
    exact done rfl
theorem DrawPullFor_ev {l : List Int} (hl : Bytes l) : ∃ (r : List Ds) (p : Int), Ev (fun k => spec_DrawPullFor.f k l) (r, p) ∧ r.length ≤ 6 := by
  obtain ⟨r, a1, s1, e1, h1, h2, h3⟩ := chain7_ev hl 0 0 (by omega) (by omega)
  obtain ⟨x, a2, s2, e2, _⟩ := haul7_ev hl a1 s1 (by omega) (by omega)
  unfold spec_DrawPullFor.f
  refine ⟨r, x, Ev.bind e1 (Ev.bind e2 ?_), h1⟩
  exact done rfl
end Go.Proofs.Ytbjilpmnhghfhaa.PureDrawStage
