/- Lists of pairs that a law marks, and looks at again. No conditions beyond those of the lemmas' own hypotheses. -/
import Derived.Test.YtckhmeadflafaaaPlain
import Derived.Test.YtckhmeadflafaaaXCsx23
import Derived.Test.YtckhmeadflafaaaXCsx22
namespace Go.Proofs.Ytckhmeadflafaaa.PureMarkCells
open Go.RowKit Go.Proofs.Ytckhmeadflafaaa.XCs Go.Proofs.Ytckhmeadflafaaa.Plain Go.Proofs.YtckhmeadflafaaaW.PrintWords Go.Proofs.YtckhmeadflafaaaW.PrintLast Go.Proofs.YtckhmeadflafaaaW.PrintMore
set_option linter.unusedVariables false
abbrev Ce := S49
theorem rdCe_set {l : List Ce} {i : Nat} (h : i < l.length) (v : Ce) (j : Nat) : rd_T49 (l.set i v) (j : Int) = if i = j then v else rd_T49 l (j : Int) := by
  unfold rd_T49
  rw [Int.toNat_natCast, List.getD_eq_getElem?_getD, List.getD_eq_getElem?_getD, List.getElem?_set]
  by_cases e : i = j
  · subst e; simp [h]
  · simp [e]
theorem markIntA2S_l0 (n : Nat) (hn : n ≤ 1048576) : ∀ i, i ≤ n → ∀ (xs : List Ce) (c : Int), xs.length = n → 0 ≤ c → c + ((2 * (n - i) : Nat) : Int) ≤ 4611686018427387904 → ∃ R : List Ce, Ev (fun k => laws_markIntA2S.l0 k xs c (i : Int)) (c + ((2 * (n - i) : Nat) : Int), R) ∧ R.length = n ∧ (∀ j : Nat, j < i → rd_T49 R (j : Int) = rd_T49 xs (j : Int)) ∧ ∀ j : Nat, i ≤ j → j < n → rd_T49 R (j : Int) = ⟨c + ((2 * (j - i) : Nat) : Int), c + ((2 * (j - i) : Nat) : Int) + 1⟩ := by
  intro i hi
  obtain ⟨d, hd⟩ : ∃ d, d = n - i := ⟨_, rfl⟩
  induction d generalizing i with
  | zero =>
    intro xs c hl h0 h1
    refine ⟨xs, Ev.step (fun k => by simp only [laws_markIntA2S.l0]; exact rfl) (ifn (by omega) (done ?_)), hl, fun j _ => rfl, fun j h2 h3 => by omega⟩
    rw [← hd]; simp
  | succ d ih =>
    intro xs c hl h0 h1
    have e1 : wrap64 (c + 1) = c + 1 := w64 (by omega) (by omega)
    have e2 : wrap64 (c + 1 + 1) = c + 2 := by rw [w64 (by omega) (by omega)]; omega
    obtain ⟨R, hR, hRl, hlt, hge⟩ := ih (i + 1) (by omega) (by omega) ((xs.set i ⟨c, (rd_T49 xs (i : Int)).f1⟩).set i ⟨c, c + 1⟩) (c + 2) (by rw [List.length_set, List.length_set]; exact hl) (by omega) (by omega)
    refine ⟨R, Ev.step (fun k => by simp only [laws_markIntA2S.l0]; exact rfl) (ifp (by omega) (ifp (by omega) (somb rfl ?_))), hRl, ?_, ?_⟩
    · rw [e1, e2, wrapS (n := n) (by omega) (by omega), Int.toNat_natCast, rdCe_set (by omega), if_pos rfl, show c + ((2 * (n - i) : Nat) : Int) = c + 2 + ((2 * (n - (i + 1)) : Nat) : Int) from by omega]
      exact hR
    · intro j hj
      rw [hlt j (by omega), rdCe_set (by rw [List.length_set]; omega), if_neg (by omega), rdCe_set (by omega), if_neg (by omega)]
    · intro j h2 h3
      by_cases e : j = i
      · subst e
        rw [hlt j (by omega), rdCe_set (by rw [List.length_set]; omega), if_pos rfl]; simp
      · rw [hge j (by omega) h3]
        rw [show c + 2 + ((2 * (j - (i + 1)) : Nat) : Int) = c + ((2 * (j - i) : Nat) : Int) from by omega]
theorem markIntA2S_ev (l : List Ce) (hn : l.length ≤ 1048576) (c : Int) (h0 : 0 ≤ c) (h1 : c + ((2 * l.length : Nat) : Int) ≤ 4611686018427387904) : ∃ R : List Ce, Ev (fun k => laws_markIntA2S.f k l c) (c + ((2 * l.length : Nat) : Int), R) ∧ R.length = l.length ∧ ∀ j : Nat, j < l.length → rd_T49 R (j : Int) = ⟨c + ((2 * j : Nat) : Int), c + ((2 * j : Nat) : Int) + 1⟩ := by
  obtain ⟨R, hR, hRl, _, hge⟩ := markIntA2S_l0 l.length hn 0 (Nat.zero_le _) l c rfl h0 (by simpa using h1)
  exact ⟨R, by unfold laws_markIntA2S.f; simpa using hR, hRl, fun j hj => by simpa using hge j (Nat.zero_le _) hj⟩
theorem heldIntA2S_l0 (R : List Ce) (n : Nat) (hl : R.length = n) (hn : n ≤ 1048576) (c : Int) (h0 : 0 ≤ c) (h1 : c + ((2 * n : Nat) : Int) ≤ 4611686018427387904) (hR : ∀ j : Nat, j < n → rd_T49 R (j : Int) = ⟨c + ((2 * j : Nat) : Int), c + ((2 * j : Nat) : Int) + 1⟩) : ∀ i, i ≤ n → Ev (fun k => laws_heldIntA2S.l0 k R (c + ((2 * i : Nat) : Int)) (i : Int)) (c + ((2 * n : Nat) : Int)) := by
  refine downTo n ?_ ?_
  · exact Ev.step (fun k => by simp only [laws_heldIntA2S.l0]; exact rfl) (ifn (by omega) (done rfl))
  · intro i hi ih
    have e1 : wrap64 (c + ((2 * i : Nat) : Int) + 1) = c + ((2 * i : Nat) : Int) + 1 := w64 (by omega) (by omega)
    have e2 : wrap64 (c + ((2 * i : Nat) : Int) + 1 + 1) = c + ((2 * (i + 1) : Nat) : Int) := by rw [w64 (by omega) (by omega)]; omega
    refine Ev.step (fun k => by simp only [laws_heldIntA2S.l0]; exact rfl) (ifp (by omega) (ifp (by omega) ?_))
    rw [hR i hi, e1, e2, wrapS hi (by omega)]
    exact ifp rfl (ifp rfl ih)
theorem heldIntA2S_ev (R : List Ce) (n : Nat) (hl : R.length = n) (hn : n ≤ 1048576) (c : Int) (h0 : 0 ≤ c) (h1 : c + ((2 * n : Nat) : Int) ≤ 4611686018427387904) (hR : ∀ j : Nat, j < n → rd_T49 R (j : Int) = ⟨c + ((2 * j : Nat) : Int), c + ((2 * j : Nat) : Int) + 1⟩) : Ev (fun k => laws_heldIntA2S.f k R c) (c + ((2 * n : Nat) : Int)) := by
  have := heldIntA2S_l0 R n hl hn c h0 h1 hR 0 (Nat.zero_le _)
  unfold laws_heldIntA2S.f
  simpa using this
theorem eqA2_refl (a b : Int) : laws_eqIntA2.f a b a b = some true := by unfold laws_eqIntA2.f; simp
theorem eqA2S_l0 (l : List Ce) (hn : l.length ≤ 140737488355328) : ∀ i, i ≤ l.length → Ev (fun k => laws_eqIntA2S.l0 k l l (i : Int)) true := by
  refine downTo l.length ?_ ?_
  · exact Ev.step (fun k => by simp only [laws_eqIntA2S.l0]; exact rfl) (ifn (by omega) (done rfl))
  · intro i hi ih
    refine Ev.step (fun k => by simp only [laws_eqIntA2S.l0]; exact rfl) (ifp (by omega) (ifp (by omega) (ifp (by omega) ?_)))
    refine somb (eqA2_refl _ _) (ifp rfl ?_)
    rw [wrapS hi hn]; exact ih
theorem eqA2S_ev (l : List Ce) (hn : l.length ≤ 140737488355328) : Ev (fun k => laws_eqIntA2S.f k l l) true := by
  unfold laws_eqIntA2S.f
  exact ifp rfl (eqA2S_l0 l hn 0 (Nat.zero_le _))
end Go.Proofs.Ytckhmeadflafaaa.PureMarkCells
