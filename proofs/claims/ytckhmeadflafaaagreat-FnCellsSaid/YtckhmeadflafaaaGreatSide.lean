/- To which side a body tips, in the program and in the reference alike. No conditions beyond those of the lemmas' own hypotheses. -/
import Derived.Test.YtckhmeadflafaaaGreatBody
import Derived.Test.YtckhmeadflafaaaGreatGround
import Derived.Test.YtckhmeadflafaaaGreatXFcx5
namespace Go.Proofs.YtckhmeadflafaaaGreat.PureSide
open Go.RowKit YtckhmeadflafaaaGreat.XFc YtckhmeadflafaaaGreat.Plain YtckhmeadflafaaaGreat.PureCells YtckhmeadflafaaaGreat.PureBody YtckhmeadflafaaaGreat.PureGround YtckhmeadflafaaaGreatW.PrintWords YtckhmeadflafaaaGreatW.PrintLast YtckhmeadflafaaaGreatW.PrintMore
set_option linter.unusedVariables false
theorem side_ev (l : List Cl) (v : LaidV l) : ∃ s, Ev (fun k => spec_l8Side.f k l) s ∧ Ev (fun k => impl_bodySide.f k l) s := by
 obtain ⟨a, b, f1, f2, _⟩ := ground_ev l v
 obtain ⟨m, g1, g2, _⟩ := middle0_ev l v.n1 v.each
 unfold spec_l8Side.f impl_bodySide.f
 have c1 : wrap64 (a * wrap64 (2 * (l.length : Int))) = wrap64 (wrap64 (2 * (l.length : Int)) * a) := by rw [Int.mul_comm]
 have c2 : wrap64 (b * wrap64 (2 * (l.length : Int))) = wrap64 (wrap64 (2 * (l.length : Int)) * b) := by rw [Int.mul_comm]
 refine ⟨if m < wrap64 (wrap64 (2 * (l.length : Int)) * a) then -1 else if m > wrap64 (wrap64 (2 * (l.length : Int)) * b) then 1 else 0, Ev.bind f1 (Ev.bind g1 (somb (a := if m < wrap64 (wrap64 (2 * (l.length : Int)) * a) then -1 else if m > wrap64 (wrap64 (2 * (l.length : Int)) * b) then 1 else 0) ?_ (done rfl))), Ev.bind f2 (Ev.bind g2 ?_)⟩
 ·unfold spec_l8Over.f
  split
  ·rfl
  ·split <;> rfl
 ·rw [c1, c2]
  refine ifc (fun h => ?_) (fun h => ?_)
  ·rw [if_pos h]; exact done rfl
  ·rw [if_neg h]
   refine ifc (fun h => ?_) (fun h => ?_)
   ·rw [if_pos h]; exact done rfl
   ·rw [if_neg h]; exact done rfl
end Go.Proofs.YtckhmeadflafaaaGreat.PureSide
