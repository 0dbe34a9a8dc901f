/- Rows that a law marks, and looks at again. No conditions beyond those of the lemmas' own hypotheses. -/
import Derived.Test.YtdbccenmfdjkjaaPlain
import Derived.Test.YtdbccenmfdjkjaaXZgx4
import Derived.Test.YtdbccenmfdjkjaaXZgx3
namespace Go.Proofs.Ytdbccenmfdjkjaa.PureMarkLoads
open Go.RowKit Go.Proofs.Ytdbccenmfdjkjaa.XZg Go.Proofs.Ytdbccenmfdjkjaa.Plain Go.Proofs.YtdbccenmfdjkjaaW.PrintWords Go.Proofs.YtdbccenmfdjkjaaW.PrintLast Go.Proofs.YtdbccenmfdjkjaaW.PrintMore
set_option linter.unusedVariables false
abbrev Ld := S41
theorem rdL_set {l : List Ld} {i : Nat} (h : i < l.length) (v : Ld) (j : Nat) : rd_T41 (l.set i v) (j : Int) = if i = j then v else rd_T41 l (j : Int) := by
  unfold rd_T41
  rw [Int.toNat_natCast, List.getD_eq_getElem?_getD, List.getD_eq_getElem?_getD, List.getElem?_set]
  by_cases e : i = j
  · subst e; simp [h]
  · simp [e]
theorem markLoadS_l0 (n : Nat) (hn : n ≤ 1048576) : ∀ i, i ≤ n → ∀ (xs : List Ld) (c : Int), xs.length = n → 0 ≤ c → c + ((2 * (n - i) : Nat) : Int) ≤ 4611686018427387904 → ∃ R : List Ld, Ev (fun k => laws_markLoadS.l0 k xs c (i : Int)) (c + ((2 * (n - i) : Nat) : Int), R) ∧ R.length = n ∧ (∀ j : Nat, j < i → rd_T41 R (j : Int) = rd_T41 xs (j : Int)) ∧ ∀ j : Nat, i ≤ j → j < n → rd_T41 R (j : Int) = ⟨c + ((2 * (j - i) : Nat) : Int), c + ((2 * (j - i) : Nat) : Int) + 1⟩ := by
  intro i hi
  obtain ⟨d, hd⟩ : ∃ d, d = n - i := ⟨_, rfl⟩
  induction d generalizing i with
  | zero =>
    intro xs c hl h0 h1
    refine ⟨xs, Ev.step (fun k => by simp only [laws_markLoadS.l0]; exact rfl) (ifn (by omega) (done ?_)), hl, fun j _ => rfl, fun j h2 h3 => by omega⟩
    rw [← hd]; simp
  | succ d ih =>
    intro xs c hl h0 h1
    have e1 : wrap64 (c + 1) = c + 1 := w64 (by omega) (by omega)
    have e2 : wrap64 (c + 1 + 1) = c + 2 := by rw [w64 (by omega) (by omega)]; omega
    obtain ⟨R, hR, hRl, hlt, hge⟩ := ih (i + 1) (by omega) (by omega) ((xs.set i ⟨c, (rd_T41 xs (i : Int)).f1⟩).set i ⟨c, c + 1⟩) (c + 2) (by rw [List.length_set, List.length_set]; exact hl) (by omega) (by omega)
    refine ⟨R, Ev.step (fun k => by simp only [laws_markLoadS.l0]; exact rfl) (ifp (by omega) (ifp (by omega) (somb rfl ?_))), hRl, ?_, ?_⟩
    · rw [e1, e2, wrapS (n := n) (by omega) (by omega), Int.toNat_natCast, rdL_set (by omega), if_pos rfl, show c + ((2 * (n - i) : Nat) : Int) = c + 2 + ((2 * (n - (i + 1)) : Nat) : Int) from by omega]
      exact hR
    · intro j hj
      rw [hlt j (by omega), rdL_set (by rw [List.length_set]; omega), if_neg (by omega), rdL_set (by omega), if_neg (by omega)]
    · intro j h2 h3
      by_cases e : j = i
      · subst e
        rw [hlt j (by omega), rdL_set (by rw [List.length_set]; omega), if_pos rfl]; simp
      · rw [hge j (by omega) h3]
        rw [show c + 2 + ((2 * (j - (i + 1)) : Nat) : Int) = c + ((2 * (j - i) : Nat) : Int) from by omega]
theorem markLoadS_ev (l : List Ld) (hn : l.length ≤ 1048576) (c : Int) (h0 : 0 ≤ c) (h1 : c + ((2 * l.length : Nat) : Int) ≤ 4611686018427387904) : ∃ R : List Ld, Ev (fun k => laws_markLoadS.f k l c) (c + ((2 * l.length : Nat) : Int), R) ∧ R.length = l.length ∧ ∀ j : Nat, j < l.length → rd_T41 R (j : Int) = ⟨c + ((2 * j : Nat) : Int), c + ((2 * j : Nat) : Int) + 1⟩ := by
  obtain ⟨R, hR, hRl, _, hge⟩ := markLoadS_l0 l.length hn 0 (Nat.zero_le _) l c rfl h0 (by simpa using h1)
  exact ⟨R, by unfold laws_markLoadS.f; simpa using hR, hRl, fun j hj => by simpa using hge j (Nat.zero_le _) hj⟩
theorem eqLoad_eq (a b c d : Int) : laws_eqLoad.f a b c d = some (decide (a = c ∧ b = d)) := by
  unfold laws_eqLoad.f
  by_cases h : a = c <;> by_cases h2 : b = d <;> simp [h, h2]
theorem eqLoadS_l0 (l : List Ld) (hn : l.length ≤ 140737488355328) : ∀ i, i ≤ l.length → Ev (fun k => laws_eqLoadS.l0 k l l (i : Int)) true := by
  refine downTo l.length ?_ ?_
  · exact Ev.step (fun k => by simp only [laws_eqLoadS.l0]; exact rfl) (ifn (by omega) (done rfl))
  · intro i hi ih
    refine Ev.step (fun k => by simp only [laws_eqLoadS.l0]; exact rfl) (ifp (by omega) (ifp (by omega) (ifp (by omega) ?_)))
    refine somb (eqLoad_eq _ _ _ _) (ifp (by simp) ?_)
    rw [wrapS hi hn]; exact ih
theorem eqLoadS_ev (l : List Ld) (hn : l.length ≤ 140737488355328) : Ev (fun k => laws_eqLoadS.f k l l) true := by
  unfold laws_eqLoadS.f
  exact ifp rfl (eqLoadS_l0 l hn 0 (Nat.zero_le _))
end Go.Proofs.Ytdbccenmfdjkjaa.PureMarkLoads
