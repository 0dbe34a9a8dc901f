/- A marked list of whole numbers, looked at again. No conditions beyond those of the lemmas' own hypotheses. -/
import Derived.Test.YtckhmeadflafaaaMarkInts
import Derived.Test.YtckhmeadflafaaaXSlx19
namespace Go.Proofs.Ytckhmeadflafaaa.PureHeldInts
open Go.RowKit Go.Proofs.Ytckhmeadflafaaa.XSl Go.Proofs.Ytckhmeadflafaaa.Plain Go.Proofs.Ytckhmeadflafaaa.PureMarkInts Go.Proofs.YtckhmeadflafaaaW.PrintWords Go.Proofs.YtckhmeadflafaaaW.PrintLast Go.Proofs.YtckhmeadflafaaaW.PrintMore
set_option linter.unusedVariables false
theorem heldIntS_l0 (R : List Int) (n : Nat) (hl : R.length = n) (hn : n ≤ 1048576) (c : Int) (h0 : 0 ≤ c) (h1 : c + (n : Int) ≤ 4611686018427387904) (hR : ∀ j : Nat, j < n → rd R (j : Int) = c + (j : Int)) : ∀ i, i ≤ n → Ev (fun k => laws_heldIntS.l0 k R (c + (i : Int)) (i : Int)) (c + (n : Int)) := by
  refine downTo n ?_ ?_
  · exact Ev.step (fun k => by simp only [laws_heldIntS.l0]; exact rfl) (ifn (by omega) (done rfl))
  · intro i hi ih
    refine Ev.step (fun k => by simp only [laws_heldIntS.l0]; exact rfl) (ifp (by omega) (ifp (by omega) (ifp (hR i hi) ?_)))
    rw [wrapS hi (by omega), w64 (by omega) (by omega), show c + (i : Int) + 1 = c + ((i + 1 : Nat) : Int) from by omega]
    exact ih
theorem heldIntS_ev (R : List Int) (n : Nat) (hl : R.length = n) (hn : n ≤ 1048576) (c : Int) (h0 : 0 ≤ c) (h1 : c + (n : Int) ≤ 4611686018427387904) (hR : ∀ j : Nat, j < n → rd R (j : Int) = c + (j : Int)) : Ev (fun k => laws_heldIntS.f k R c) (c + (n : Int)) := by
  have := heldIntS_l0 R n hl hn c h0 h1 hR 0 (Nat.zero_le _)
  unfold laws_heldIntS.f
  simpa using this
end Go.Proofs.Ytckhmeadflafaaa.PureHeldInts
