/- Weights, arms and signs that are drawn. No conditions beyond those of the lemmas' own hypotheses. -/
import Derived.Test.YtkedfmmmjopofaaDraw
import Derived.Test.YtkedfmmmjopofaaXSex3
namespace Go.Proofs.Ytkedfmmmjopofaa.PureDrawTilt
open Go.RowKit Go.Proofs.Ytkedfmmmjopofaa.XSe Go.Proofs.Ytkedfmmmjopofaa.Plain Go.Proofs.Ytkedfmmmjopofaa.PureDraw Go.Proofs.YtkedfmmmjopofaaW.PrintWords Go.Proofs.YtkedfmmmjopofaaW.PrintLast Go.Proofs.YtkedfmmmjopofaaW.PrintMore
set_option linter.unusedVariables false
theorem small_of {x : Int} {L : List Int} (h : x ∈ L) (m : Int) (hm : L.all (fun y => decide (y ≤ m)) = true) : x ≤ m := by
  have := List.all_eq_true.1 hm x h
  simpa using this
theorem w_l1 {l : List Int} (a s : Int) : ∀ d : Nat, ∀ acc : List Int, acc.length + d = 13 → ∃ r : List Int, Ev (fun k => spec_l1Cur_weights9.l1 k acc l a s) (r, a, s) ∧ r.length ≤ 13 := by
  intro d
  induction d with
  | zero => intro acc h; exact ⟨acc, Ev.step (fun k => by simp only [spec_l1Cur_weights9.l1]; exact rfl) (ifn (by omega) (done rfl)), by omega⟩
  | succ d ih =>
    intro acc h
    obtain ⟨r, e, hr⟩ := ih (acc ++ [1]) (by rw [List.length_append, List.length_singleton]; omega)
    exact ⟨r, Ev.step (fun k => by simp only [spec_l1Cur_weights9.l1]; exact rfl) (ifp (by omega) (ifp (by omega) e)), hr⟩
theorem w_l2 {l : List Int} (a s : Int) : ∀ d : Nat, ∀ acc : List Int, acc.length + d = 7 → ∃ r : List Int, Ev (fun k => spec_l1Cur_weights9.l2 k acc l a s) (r, a, s) ∧ r.length ≤ 13 := by
  intro d
  induction d with
  | zero => intro acc h; exact ⟨acc, Ev.step (fun k => by simp only [spec_l1Cur_weights9.l2]; exact rfl) (ifn (by omega) (done rfl)), by omega⟩
  | succ d ih =>
    intro acc h
    obtain ⟨r, e, hr⟩ := ih (acc ++ [1]) (by rw [List.length_append, List.length_singleton]; omega)
    exact ⟨r, Ev.step (fun k => by simp only [spec_l1Cur_weights9.l2]; exact rfl) (ifp (by omega) (ifp (by omega) e)), hr⟩
theorem w_l0 {l : List Int} (hl : Bytes l) : ∀ d : Nat, ∀ (n : Int), n.toNat = d → ∀ acc : List Int, acc.length + d ≤ 5 → ∀ a s : Int, 0 ≤ a → a + 8 * (d : Int) ≤ 4611686018427380000 → ∃ (r : List Int) (a' s' : Int), Ev (fun k => spec_l1Cur_weights9.l0 k acc n l a s) (r, a', s') ∧ r.length ≤ 13 ∧ 0 ≤ a' ∧ a' ≤ a + 8 * (d : Int) + 8 := by
  intro d
  induction d with
  | zero =>
    intro n hn acc hacc a s h0 h1
    obtain ⟨x, a1, s1, e1, _, b0, b1⟩ := pick_ev hl a s h0 (by omega) 40 (by omega)
    have hlim : acc.length < 17592186044416 := by omega
    by_cases c0 : x = 0
    · obtain ⟨y, a2, s2, e2, _, b2, b3⟩ := among_ev hl a1 s1 (by omega) (by omega) [0, 99, 100, -1] (by decide) (by decide)
      exact ⟨acc ++ [y], a2, s2, Ev.step (fun k => by simp only [spec_l1Cur_weights9.l0]; exact rfl) (ifn (by omega) (somb e1 (ifp c0 (somb e2 (ifp hlim (done rfl)))))), by rw [List.length_append, List.length_singleton]; omega, by omega, by omega⟩
    · by_cases c1 : x = 1
      · obtain ⟨r, e, hr⟩ := w_l1 (l := l) a1 s1 (13 - acc.length) acc (by omega)
        exact ⟨r, a1, s1, Ev.step (fun k => by simp only [spec_l1Cur_weights9.l0]; exact rfl) (ifn (by omega) (somb e1 (ifn c0 (ifp c1 e)))), hr, by omega, by omega⟩
      · by_cases c2 : x = 2
        · obtain ⟨r, e, hr⟩ := w_l2 (l := l) a1 s1 (7 - acc.length) acc (by omega)
          exact ⟨r, a1, s1, Ev.step (fun k => by simp only [spec_l1Cur_weights9.l0]; exact rfl) (ifn (by omega) (somb e1 (ifn c0 (ifn c1 (ifp c2 e))))), hr, by omega, by omega⟩
        · exact ⟨acc, a1, s1, Ev.step (fun k => by simp only [spec_l1Cur_weights9.l0]; exact rfl) (ifn (by omega) (somb e1 (ifn c0 (ifn c1 (ifn c2 (done rfl)))))), by omega, by omega, by omega⟩
  | succ d ih =>
    intro n hn acc hacc a s h0 h1
    obtain ⟨x, a1, s1, e1, hx, b0, b1⟩ := among_ev hl a s h0 (by omega) [1, 2, 3, 4, 6, 2, 5] (by decide) (by decide)
    have hw : wrap64 (n - 1) = n - 1 := w64 (by omega) (by omega)
    have hlim : acc.length < 17592186044416 := by omega
    obtain ⟨r, a', s', e, h2, h3, h4⟩ := ih (n - 1) (by omega) (acc ++ [x]) (by rw [List.length_append, List.length_singleton]; omega) a1 s1 (by omega) (by omega)
    refine ⟨r, a', s', Ev.step (fun k => by simp only [spec_l1Cur_weights9.l0]; exact rfl) (ifp (by omega) (somb e1 (ifp hlim ?_))), h2, h3, by omega⟩
    rw [hw]; exact e
theorem weights9_ev {l : List Int} (hl : Bytes l) (a s : Int) (h0 : 0 ≤ a) (h1 : a ≤ 4611686018427370000) : ∃ (r : List Int) (a' s' : Int), Ev (fun k => spec_l1Cur_weights9.f k l a s) (r, a', s') ∧ r.length ≤ 13 ∧ 0 ≤ a' ∧ a' ≤ a + 100 := by
  obtain ⟨x, a1, s1, e1, hx, b0, b1⟩ := among_ev hl a s h0 (by omega) [3, 4, 2, 3, 1, 5, 0] (by decide) (by decide)
  have hx5 := small_of hx 5 (by decide)
  unfold spec_l1Cur_weights9.f
  obtain ⟨r, a', s', e, h2, h3, h4⟩ := w_l0 hl x.toNat x rfl [] (by simp only [List.length_nil]; omega) a1 s1 (by omega) (by omega)
  exact ⟨r, a', s', somb e1 e, h2, h3, by omega⟩
end Go.Proofs.Ytkedfmmmjopofaa.PureDrawTilt
