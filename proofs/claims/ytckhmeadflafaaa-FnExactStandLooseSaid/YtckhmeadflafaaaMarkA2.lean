/- A list of pairs that a law marks: the number after it. No conditions beyond those of the lemmas' own hypotheses. -/
import Derived.Test.YtckhmeadflafaaaPlain
import Derived.Test.YtckhmeadflafaaaXSlx19
namespace Go.Proofs.Ytckhmeadflafaaa.PureMarkA2
open Go.RowKit Go.Proofs.Ytckhmeadflafaaa.XSl Go.Proofs.Ytckhmeadflafaaa.Plain Go.Proofs.YtckhmeadflafaaaW.PrintWords Go.Proofs.YtckhmeadflafaaaW.PrintLast Go.Proofs.YtckhmeadflafaaaW.PrintMore
set_option linter.unusedVariables false
abbrev Ce := S49
theorem markA2_l0 (n : Nat) (hn : n ≤ 1048576) : ∀ i, i ≤ n → ∀ (xs : List Ce) (c : Int), xs.length = n → 0 ≤ c → c + ((2 * (n - i) : Nat) : Int) ≤ 4611686018427387904 → ∃ R : List Ce, Ev (fun k => laws_markIntA2S.l0 k xs c (i : Int)) (c + ((2 * (n - i) : Nat) : Int), R) := by
  refine downTo n ?_ ?_
  · intro xs c hl h0 h1
    refine ⟨xs, Ev.step (fun k => by simp only [laws_markIntA2S.l0]; exact rfl) (ifn (by omega) (done ?_))⟩
    simp
  · intro i hi ih xs c hl h0 h1
    have e1 : wrap64 (c + 1) = c + 1 := w64 (by omega) (by omega)
    have e2 : wrap64 (c + 1 + 1) = c + 2 := by rw [w64 (by omega) (by omega)]; omega
    obtain ⟨R, hR⟩ := ih ((xs.set i ⟨c, (rd_T49 xs (i : Int)).f1⟩).set i ⟨(rd_T49 (xs.set i ⟨c, (rd_T49 xs (i : Int)).f1⟩) (i : Int)).f0, c + 1⟩) (c + 2) (by simp [hl]) (by omega) (by omega)
    refine ⟨R, ?_⟩
    refine Ev.step (fun k => by simp only [laws_markIntA2S.l0]; exact rfl) ?_
    refine ifp (by omega) (ifp (by omega) ?_)
    simp only [Option.bind_some]
    rw [e1, e2, wrapS hi (by omega), Int.toNat_natCast, show c + ((2 * (n - i) : Nat) : Int) = c + 2 + ((2 * (n - (i + 1)) : Nat) : Int) from by omega]
    exact hR
theorem markA2_ev (l : List Ce) (hn : l.length ≤ 1048576) (c : Int) (h0 : 0 ≤ c) (h1 : c + ((2 * l.length : Nat) : Int) ≤ 4611686018427387904) : ∃ R : List Ce, Ev (fun k => laws_markIntA2S.f k l c) (c + ((2 * l.length : Nat) : Int), R) := by
  obtain ⟨R, hR⟩ := markA2_l0 l.length hn 0 (Nat.zero_le _) l c rfl h0 (by simpa using h1)
  exact ⟨R, by unfold laws_markIntA2S.f; simpa using hR⟩
end Go.Proofs.Ytckhmeadflafaaa.PureMarkA2
