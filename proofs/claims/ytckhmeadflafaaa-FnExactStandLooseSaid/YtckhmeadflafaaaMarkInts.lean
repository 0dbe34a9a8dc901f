/- Lists of whole numbers that a law marks, and looks at again. No conditions beyond those of the lemmas' own hypotheses. -/
import Derived.Test.YtckhmeadflafaaaPlain
import Derived.Test.YtckhmeadflafaaaXSlx19
namespace Go.Proofs.Ytckhmeadflafaaa.PureMarkInts
open Go.RowKit Go.Proofs.Ytckhmeadflafaaa.XSl Go.Proofs.Ytckhmeadflafaaa.Plain Go.Proofs.YtckhmeadflafaaaW.PrintWords Go.Proofs.YtckhmeadflafaaaW.PrintLast Go.Proofs.YtckhmeadflafaaaW.PrintMore
set_option linter.unusedVariables false
theorem rd_set {l : List Int} {i : Nat} (h : i < l.length) (v : Int) (j : Nat) : rd (l.set i v) (j : Int) = if i = j then v else rd l (j : Int) := by
  unfold rd
  rw [Int.toNat_natCast, List.getD_eq_getElem?_getD, List.getD_eq_getElem?_getD, List.getElem?_set]
  by_cases e : i = j
  · subst e; simp [h]
  · simp [e]
theorem markIntS_l0 (n : Nat) (hn : n ≤ 1048576) : ∀ i, i ≤ n → ∀ (xs : List Int) (c : Int), xs.length = n → 0 ≤ c → c + ((n - i : Nat) : Int) ≤ 4611686018427387904 → ∃ R : List Int, Ev (fun k => laws_markIntS.l0 k xs c (i : Int)) (c + ((n - i : Nat) : Int), R) ∧ R.length = n ∧ (∀ j : Nat, j < i → rd R (j : Int) = rd xs (j : Int)) ∧ ∀ j : Nat, i ≤ j → j < n → rd R (j : Int) = c + ((j - i : Nat) : Int) := by
  intro i hi
  obtain ⟨d, hd⟩ : ∃ d, d = n - i := ⟨_, rfl⟩
  induction d generalizing i with
  | zero =>
    intro xs c hl h0 h1
    refine ⟨xs, Ev.step (fun k => by simp only [laws_markIntS.l0]; exact rfl) (ifn (by omega) (done ?_)), hl, fun j _ => rfl, fun j h2 h3 => by omega⟩
    rw [← hd]; simp
  | succ d ih =>
    intro xs c hl h0 h1
    have e1 : wrap64 (c + 1) = c + 1 := w64 (by omega) (by omega)
    obtain ⟨R, hR, hRl, hlt, hge⟩ := ih (i + 1) (by omega) (by omega) (xs.set i c) (c + 1) (by rw [List.length_set]; exact hl) (by omega) (by omega)
    · refine ⟨R, Ev.step (fun k => by simp only [laws_markIntS.l0]; exact rfl) (ifp (by omega) (ifp (by omega) ?_)), hRl, ?_, ?_⟩
      · rw [e1, wrapS (n := n) (by omega) (by omega), Int.toNat_natCast, show c + ((n - i : Nat) : Int) = c + 1 + ((n - (i + 1) : Nat) : Int) from by omega]
        exact hR
      · intro j hj
        rw [hlt j (by omega), rd_set (by omega), if_neg (by omega)]
      · intro j h2 h3
        by_cases e : j = i
        · subst e
          rw [hlt j (by omega), rd_set (by omega), if_pos rfl]; omega
        · rw [hge j (by omega) h3]; omega
/-- What a list comes to when it is marked from a number on: the number after it, and the list. -/
theorem markIntS_ev (l : List Int) (hn : l.length ≤ 1048576) (c : Int) (h0 : 0 ≤ c) (h1 : c + (l.length : Int) ≤ 4611686018427387904) : ∃ R : List Int, Ev (fun k => laws_markIntS.f k l c) (c + (l.length : Int), R) ∧ R.length = l.length ∧ ∀ j : Nat, j < l.length → rd R (j : Int) = c + (j : Int) := by
  obtain ⟨R, hR, hRl, _, hge⟩ := markIntS_l0 l.length hn 0 (Nat.zero_le _) l c rfl h0 (by simpa using h1)
  exact ⟨R, by unfold laws_markIntS.f; simpa using hR, hRl, fun j hj => by simpa using hge j (Nat.zero_le _) hj⟩
end Go.Proofs.Ytckhmeadflafaaa.PureMarkInts
