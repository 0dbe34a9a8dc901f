/- Functions of the program as plain Lean functions, each with the proof that the machine's call does what it says: written by a program of this session out of the translation. -/
import Derived.Test.YtckhmeadflafaaaXFbx0
import Derived.Test.YtckhmeadflafaaaXFbx1
import Derived.Test.YtckhmeadflafaaaXFbx2
import Derived.Test.YtckhmeadflafaaaXFbx8
import Derived.Test.YtckhmeadflafaaaXFbx11
import Derived.Test.YtckhmeadflafaaaXFbx12
import Derived.Test.YtckhmeadflafaaaXFbx15
import Derived.Test.YtckhmeadflafaaaXFbx16
import Derived.Test.YtckhmeadflafaaaXFbx17
import Derived.Test.YtckhmeadflafaaaXFbx18
import Derived.Test.YtckhmeadflafaaaXFbx19
import Derived.Test.YtckhmeadflafaaaXFbx20
import Derived.Test.YtckhmeadflafaaaXFbx21
import Derived.Test.YtckhmeadflafaaaXFbx22
import Derived.Test.YtckhmeadflafaaaXFbx24
import Derived.Test.YtckhmeadflafaaaXFbx25
import Derived.Test.YtckhmeadflafaaaXFbx26
import Derived.Test.YtckhmeadflafaaaXFbx28
import Derived.Test.YtckhmeadflafaaaXFbx29
import Derived.Test.YtckhmeadflafaaaXFbx30
namespace Go.Proofs.Ytckhmeadflafaaa.XFb
open Go.RowKit Go.Proofs.YtckhmeadflafaaaW.PrintWords Go.Proofs.YtckhmeadflafaaaW.PrintLast Go.Proofs.YtckhmeadflafaaaW.PrintMore
attribute [local go_sem] max2_int min2_int max_two min_two max_three min_three max_four min_four   -- for this text's walks alone
set_option linter.unusedVariables false
set_option linter.unusedSimpArgs false

attribute [local go_sem high] eqA49
/-! ### laws_FnBodies: function 10 -/
mutual
def laws_FnBodies.j0 : Nat → List (S49) → Int → Bool → Int → Int → List (S49) → List (S49) → Int → Bool → List Int → List (S49) → Int → List (S49) → Bool → Bool → Int → Int → Option (Bool)
 | 0, _, _, _, _, _, _, _, _, _, _, _, _, _, _, _, _, _ => none
 | k + 1, x3, x4, x5, x14, x15, x20, x24, x25, x26, x30, x34, x35, x36, x37, x274, x611000, x611001 => if x274 = true then (none) else (if x37 = true then ((impl_TurnBody.f k x36 (wrap64 (-x35))).bind fun bt680 => (if bt680.2 = true then ((laws_rCells.f k bt680.1 x34).bind fun t684 => (if t684 = true then (laws_FnBodies.j1 k x3 x4 x5 x14 x15 x20 x24 x25 x26 x30 x611000 x611001) else (none))) else (none))) else (laws_FnBodies.j1 k x3 x4 x5 x14 x15 x20 x24 x25 x26 x30 x611000 x611001))
def laws_FnBodies.j1 : Nat → List (S49) → Int → Bool → Int → Int → List (S49) → List (S49) → Int → Bool → List Int → Int → Int → Option (Bool)
 | 0, _, _, _, _, _, _, _, _, _, _, _, _ => none
 | k + 1, x3, x4, x5, x14, x15, x20, x24, x25, x26, x30, x611000, x611001 => if x5 = true then (if x611000 ≥ (wrap64 (x14 * x611001)) then (if ((x4 == 0) != (decide (x611000 ≤ (wrap64 (x15 * x611001))))) = true then (none) else ((laws_rHas.f k x30 0).bind fun t685 => (if (t685 != (x4 == 0)) = true then (none) else (if x26 = true then (laws_FnBodies.j2 k x3 x4 x20 x24 x25 x26 x30 ((x30.length : Int) == 0)) else (laws_FnBodies.j2 k x3 x4 x20 x24 x25 x26 x30 false))))) else (if ((x4 == 0) != false) = true then (none) else ((laws_rHas.f k x30 0).bind fun t686 => (if (t686 != (x4 == 0)) = true then (none) else (if x26 = true then (laws_FnBodies.j2 k x3 x4 x20 x24 x25 x26 x30 ((x30.length : Int) == 0)) else (laws_FnBodies.j2 k x3 x4 x20 x24 x25 x26 x30 false)))))) else (some true)
def laws_FnBodies.j2 : Nat → List (S49) → Int → List (S49) → List (S49) → Int → Bool → List Int → Bool → Option (Bool)
 | 0, _, _, _, _, _, _, _, _ => none
 | k + 1, x3, x4, x20, x24, x25, x26, x30, x326 => if x326 = true then (none) else ((impl_BodySide.f k x20).bind fun bt687 => ((impl_MirrorBody.f k x20).bind fun bt689 => (if bt687.2 = true then (if bt689.2 = true then (if bt687.1 = (wrap64 (-x4)) then ((laws_rCells.f k bt689.1 x3).bind fun t693 => (if t693 = true then (laws_FnBodies.l0 k x3 x4 x24 x25 x26 x30 x3 false 0) else (none))) else (none)) else (none)) else (none))))
def laws_FnBodies.l0 : Nat → List (S49) → Int → List (S49) → Int → Bool → List Int → List (S49) → Bool → Int → Option (Bool)
 | 0, _, _, _, _, _, _, _, _, _ => none
 | k + 1, x3, x4, x24, x25, x26, x30, x51, x52, x53 => if x53 < 4 then ((impl_BodySide.f k x51).bind fun bt695 => (if bt695.2 = true then ((laws_rHas.f k x30 x53).bind fun t697 => (if (t697 != (bt695.1 == 0)) = true then (none) else (if x52 = true then ((impl_TurnBody.f k x51 1).bind fun bt698 => (if bt698.2 = true then (laws_FnBodies.l0 k x3 x4 x24 x25 x26 x30 bt698.1 true (wrap64 (x53 + 1))) else (none))) else (if x26 = true then ((laws_rCells.f k x51 x24).bind fun t702 => ((impl_TurnBody.f k x51 1).bind fun bt703 => (if bt703.2 = true then (laws_FnBodies.l0 k x3 x4 x24 x25 x26 x30 bt703.1 t702 (wrap64 (x53 + 1))) else (none)))) else ((impl_TurnBody.f k x51 1).bind fun bt707 => (if bt707.2 = true then (laws_FnBodies.l0 k x3 x4 x24 x25 x26 x30 bt707.1 false (wrap64 (x53 + 1))) else (none))))))) else (none))) else ((laws_rCells.f k x51 x3).bind fun t694 => (if t694 = true then (if (x52 == x26) = true then (if x4 = 0 then (if x26 = true then (some (x25 == 0)) else (none)) else (some true)) else (none)) else (none)))
end
def laws_FnBodies.f (k : Nat) (l0 : List Int) : Option (Bool) := (laws_rBig.f l0).bind fun t596 => (if t596 = true then (some true) else ((spec_DrawBodySide.f k l0).bind fun t597 => ((impl_BodySide.f k t597).bind fun bt600 => ((spec_BodySide.f k t597).bind fun bt602 => (if bt600.1 = bt602.1 then (if (bt600.2 != bt602.2) = true then (none) else ((impl_IsBody.f k t597).bind fun t604 => (if (bt600.2 != t604) = true then (none) else ((impl_BodyCentre.f k t597).bind fun bt605 => ((spec_BodyCentre.f k t597).bind fun bt612 => (if (!(bt605.1 == bt612.1) || (!(bt605.2.1 == bt612.2.1))) = true then (none) else (if (!(bt605.2.2.1 == bt612.2.2.1) || (!(bt605.2.2.2.1 == bt612.2.2.2.1))) = true then (none) else (if (bt605.2.2.2.2 != bt612.2.2.2.2) = true then (none) else (if (bt605.2.2.2.2 != bt600.2) = true then (none) else ((impl_GroundOf.f k t597).bind fun bt619 => ((spec_GroundOf.f k t597).bind fun bt622 => (if bt619.1 = bt622.1 then (if bt619.2.1 = bt622.2.1 then (if (bt619.2.2 != bt622.2.2) = true then (none) else (if (bt619.2.2 != bt600.2) = true then (none) else ((impl_MirrorBody.f k t597).bind fun bt625 => ((spec_MirrorBody.f k t597).bind fun bt629 => (if (bt625.2 != bt629.2) = true then (none) else (if (bt625.2 != bt600.2) = true then (none) else ((laws_rCells.f k bt625.1 bt629.1).bind fun t633 => (if t633 = true then ((impl_TumbleBody.f k t597).bind fun bt634 => ((spec_TumbleBody.f k t597).bind fun bt639 => (if bt634.2.1 = bt639.2.1 then (if (bt634.2.2 != bt639.2.2) = true then (none) else ((laws_rCells.f k bt634.1 bt639.1).bind fun t644 => (if t644 = true then ((impl_StandingTurns.f k t597).bind fun bt645 => ((spec_StandingTurns.f k t597).bind fun bt649 => (if (bt645.2 != bt649.2) = true then (none) else (if (bt645.2 != bt600.2) = true then (none) else ((laws_rInts.f k bt645.1 bt649.1).bind fun t653 => (if t653 = true then ((spec_DrawTurnBody.f k l0).bind fun bt654 => ((impl_TurnBody.f k bt654.1 bt654.2).bind fun bt658 => ((spec_TurnBody.f k bt654.1 bt654.2).bind fun bt662 => (if (bt658.2 != bt662.2) = true then (none) else ((laws_rCells.f k bt658.1 bt662.1).bind fun t666 => (if t666 = true then ((spec_DrawPutDown.f k l0).bind fun t667 => ((impl_PutDown.f k t667).bind fun bt670 => ((spec_PutDown.f k t667).bind fun bt674 => (if (bt670.2 != bt674.2) = true then (none) else ((laws_rCells.f k bt670.1 bt674.1).bind fun t678 => (if t678 = true then (if bt670.2 = true then ((impl_IsBody.f k bt670.1).bind fun t679 => (laws_FnBodies.j0 k t597 bt600.1 bt600.2 bt619.1 bt619.2.1 bt625.1 bt634.1 bt634.2.1 bt634.2.2 bt645.1 bt654.1 bt654.2 bt658.1 bt658.2 (!t679) bt605.1 bt605.2.1)) else (laws_FnBodies.j0 k t597 bt600.1 bt600.2 bt619.1 bt619.2.1 bt625.1 bt634.1 bt634.2.1 bt634.2.2 bt645.1 bt654.1 bt654.2 bt658.1 bt658.2 false bt605.1 bt605.2.1)) else (none))))))) else (none))))))) else (none))))))) else (none)))) else (none)))) else (none))))))))) else (none)) else (none))))))))))))) else (none))))))
theorem laws_FnBodies.mono_l : ∀ k, (∀ y0 y1 y2 y3 y4 y5 y6 y7 y8 y9 y10 y11 y12 y13 y14 y15 y16, LeO (laws_FnBodies.j0 k y0 y1 y2 y3 y4 y5 y6 y7 y8 y9 y10 y11 y12 y13 y14 y15 y16) (laws_FnBodies.j0 (k + 1) y0 y1 y2 y3 y4 y5 y6 y7 y8 y9 y10 y11 y12 y13 y14 y15 y16)) ∧ (∀ y0 y1 y2 y3 y4 y5 y6 y7 y8 y9 y10 y11, LeO (laws_FnBodies.j1 k y0 y1 y2 y3 y4 y5 y6 y7 y8 y9 y10 y11) (laws_FnBodies.j1 (k + 1) y0 y1 y2 y3 y4 y5 y6 y7 y8 y9 y10 y11)) ∧ (∀ y0 y1 y2 y3 y4 y5 y6 y7, LeO (laws_FnBodies.j2 k y0 y1 y2 y3 y4 y5 y6 y7) (laws_FnBodies.j2 (k + 1) y0 y1 y2 y3 y4 y5 y6 y7)) ∧ (∀ y0 y1 y2 y3 y4 y5 y6 y7 y8, LeO (laws_FnBodies.l0 k y0 y1 y2 y3 y4 y5 y6 y7 y8) (laws_FnBodies.l0 (k + 1) y0 y1 y2 y3 y4 y5 y6 y7 y8))
 | 0 => ⟨fun _ _ _ _ _ _ _ _ _ _ _ _ _ _ _ _ _ r h => by simp [laws_FnBodies.j0] at h, fun _ _ _ _ _ _ _ _ _ _ _ _ r h => by simp [laws_FnBodies.j1] at h, fun _ _ _ _ _ _ _ _ r h => by simp [laws_FnBodies.j2] at h, fun _ _ _ _ _ _ _ _ _ r h => by simp [laws_FnBodies.l0] at h⟩
 | k + 1 => by
  obtain ⟨ih0, ih1, ih2, ih3⟩ := laws_FnBodies.mono_l k; refine ⟨?_, ?_, ?_, ?_⟩
  ·intro y0 y1 y2 y3 y4 y5 y6 y7 y8 y9 y10 y11 y12 y13 y14 y15 y16
   unfold laws_FnBodies.j0
   repeat' first
   | (with_reducible exact ih0 _ _ _ _ _ _ _ _ _ _ _ _ _ _ _ _ _)
   | (with_reducible exact ih1 _ _ _ _ _ _ _ _ _ _ _ _)
   | (with_reducible exact ih2 _ _ _ _ _ _ _ _)
   | (with_reducible exact ih3 _ _ _ _ _ _ _ _ _)
   | (with_reducible exact impl_BodyCentre.mono _ _)
   | (with_reducible exact impl_BodySide.mono _ _)
   | (with_reducible exact impl_GroundOf.mono _ _)
   | (with_reducible exact impl_IsBody.mono _ _)
   | (with_reducible exact impl_MirrorBody.mono _ _)
   | (with_reducible exact impl_PutDown.mono _ _)
   | (with_reducible exact impl_StandingTurns.mono _ _)
   | (with_reducible exact impl_TumbleBody.mono _ _)
   | (with_reducible exact impl_TurnBody.mono _ _ _)
   | (with_reducible exact laws_rCells.mono _ _ _)
   | (with_reducible exact laws_rHas.mono _ _ _)
   | (with_reducible exact laws_rInts.mono _ _ _)
   | (with_reducible exact spec_BodyCentre.mono _ _)
   | (with_reducible exact spec_BodySide.mono _ _)
   | (with_reducible exact spec_DrawBodySide.mono _ _)
   | (with_reducible exact spec_DrawPutDown.mono _ _)
   | (with_reducible exact spec_DrawTurnBody.mono _ _)
   | (with_reducible exact spec_GroundOf.mono _ _)
   | (with_reducible exact spec_MirrorBody.mono _ _)
   | (with_reducible exact spec_PutDown.mono _ _)
   | (with_reducible exact spec_StandingTurns.mono _ _)
   | (with_reducible exact spec_TumbleBody.mono _ _)
   | (with_reducible exact spec_TurnBody.mono _ _ _)
   | (with_reducible exact LeO.refl _)
   | (with_reducible exact LeO.none _)
   | (with_reducible refine LeO.ite ?_ ?_)
   | (with_reducible refine LeO.bind ?_ (fun _ => ?_))
  ·intro y0 y1 y2 y3 y4 y5 y6 y7 y8 y9 y10 y11
   unfold laws_FnBodies.j1
   repeat' first
   | (with_reducible exact ih0 _ _ _ _ _ _ _ _ _ _ _ _ _ _ _ _ _)
   | (with_reducible exact ih1 _ _ _ _ _ _ _ _ _ _ _ _)
   | (with_reducible exact ih2 _ _ _ _ _ _ _ _)
   | (with_reducible exact ih3 _ _ _ _ _ _ _ _ _)
   | (with_reducible exact impl_BodyCentre.mono _ _)
   | (with_reducible exact impl_BodySide.mono _ _)
   | (with_reducible exact impl_GroundOf.mono _ _)
   | (with_reducible exact impl_IsBody.mono _ _)
   | (with_reducible exact impl_MirrorBody.mono _ _)
   | (with_reducible exact impl_PutDown.mono _ _)
   | (with_reducible exact impl_StandingTurns.mono _ _)
   | (with_reducible exact impl_TumbleBody.mono _ _)
   | (with_reducible exact impl_TurnBody.mono _ _ _)
   | (with_reducible exact laws_rCells.mono _ _ _)
   | (with_reducible exact laws_rHas.mono _ _ _)
   | (with_reducible exact laws_rInts.mono _ _ _)
   | (with_reducible exact spec_BodyCentre.mono _ _)
   | (with_reducible exact spec_BodySide.mono _ _)
   | (with_reducible exact spec_DrawBodySide.mono _ _)
   | (with_reducible exact spec_DrawPutDown.mono _ _)
   | (with_reducible exact spec_DrawTurnBody.mono _ _)
   | (with_reducible exact spec_GroundOf.mono _ _)
   | (with_reducible exact spec_MirrorBody.mono _ _)
   | (with_reducible exact spec_PutDown.mono _ _)
   | (with_reducible exact spec_StandingTurns.mono _ _)
   | (with_reducible exact spec_TumbleBody.mono _ _)
   | (with_reducible exact spec_TurnBody.mono _ _ _)
   | (with_reducible exact LeO.refl _)
   | (with_reducible exact LeO.none _)
   | (with_reducible refine LeO.ite ?_ ?_)
   | (with_reducible refine LeO.bind ?_ (fun _ => ?_))
  ·intro y0 y1 y2 y3 y4 y5 y6 y7
   unfold laws_FnBodies.j2
   repeat' first
   | (with_reducible exact ih0 _ _ _ _ _ _ _ _ _ _ _ _ _ _ _ _ _)
   | (with_reducible exact ih1 _ _ _ _ _ _ _ _ _ _ _ _)
   | (with_reducible exact ih2 _ _ _ _ _ _ _ _)
   | (with_reducible exact ih3 _ _ _ _ _ _ _ _ _)
   | (with_reducible exact impl_BodyCentre.mono _ _)
   | (with_reducible exact impl_BodySide.mono _ _)
   | (with_reducible exact impl_GroundOf.mono _ _)
   | (with_reducible exact impl_IsBody.mono _ _)
   | (with_reducible exact impl_MirrorBody.mono _ _)
   | (with_reducible exact impl_PutDown.mono _ _)
   | (with_reducible exact impl_StandingTurns.mono _ _)
   | (with_reducible exact impl_TumbleBody.mono _ _)
   | (with_reducible exact impl_TurnBody.mono _ _ _)
   | (with_reducible exact laws_rCells.mono _ _ _)
   | (with_reducible exact laws_rHas.mono _ _ _)
   | (with_reducible exact laws_rInts.mono _ _ _)
   | (with_reducible exact spec_BodyCentre.mono _ _)
   | (with_reducible exact spec_BodySide.mono _ _)
   | (with_reducible exact spec_DrawBodySide.mono _ _)
   | (with_reducible exact spec_DrawPutDown.mono _ _)
   | (with_reducible exact spec_DrawTurnBody.mono _ _)
   | (with_reducible exact spec_GroundOf.mono _ _)
   | (with_reducible exact spec_MirrorBody.mono _ _)
   | (with_reducible exact spec_PutDown.mono _ _)
   | (with_reducible exact spec_StandingTurns.mono _ _)
   | (with_reducible exact spec_TumbleBody.mono _ _)
   | (with_reducible exact spec_TurnBody.mono _ _ _)
   | (with_reducible exact LeO.refl _)
   | (with_reducible exact LeO.none _)
   | (with_reducible refine LeO.ite ?_ ?_)
   | (with_reducible refine LeO.bind ?_ (fun _ => ?_))
  ·intro y0 y1 y2 y3 y4 y5 y6 y7 y8
   unfold laws_FnBodies.l0
   repeat' first
   | (with_reducible exact ih0 _ _ _ _ _ _ _ _ _ _ _ _ _ _ _ _ _)
   | (with_reducible exact ih1 _ _ _ _ _ _ _ _ _ _ _ _)
   | (with_reducible exact ih2 _ _ _ _ _ _ _ _)
   | (with_reducible exact ih3 _ _ _ _ _ _ _ _ _)
   | (with_reducible exact impl_BodyCentre.mono _ _)
   | (with_reducible exact impl_BodySide.mono _ _)
   | (with_reducible exact impl_GroundOf.mono _ _)
   | (with_reducible exact impl_IsBody.mono _ _)
   | (with_reducible exact impl_MirrorBody.mono _ _)
   | (with_reducible exact impl_PutDown.mono _ _)
   | (with_reducible exact impl_StandingTurns.mono _ _)
   | (with_reducible exact impl_TumbleBody.mono _ _)
   | (with_reducible exact impl_TurnBody.mono _ _ _)
   | (with_reducible exact laws_rCells.mono _ _ _)
   | (with_reducible exact laws_rHas.mono _ _ _)
   | (with_reducible exact laws_rInts.mono _ _ _)
   | (with_reducible exact spec_BodyCentre.mono _ _)
   | (with_reducible exact spec_BodySide.mono _ _)
   | (with_reducible exact spec_DrawBodySide.mono _ _)
   | (with_reducible exact spec_DrawPutDown.mono _ _)
   | (with_reducible exact spec_DrawTurnBody.mono _ _)
   | (with_reducible exact spec_GroundOf.mono _ _)
   | (with_reducible exact spec_MirrorBody.mono _ _)
   | (with_reducible exact spec_PutDown.mono _ _)
   | (with_reducible exact spec_StandingTurns.mono _ _)
   | (with_reducible exact spec_TumbleBody.mono _ _)
   | (with_reducible exact spec_TurnBody.mono _ _ _)
   | (with_reducible exact LeO.refl _)
   | (with_reducible exact LeO.none _)
   | (with_reducible refine LeO.ite ?_ ?_)
   | (with_reducible refine LeO.bind ?_ (fun _ => ?_))
theorem laws_FnBodies.mono : ∀ a0 k, LeO (laws_FnBodies.f k a0) (laws_FnBodies.f (k + 1) a0) := by
 intro a0 k; obtain ⟨ih0, ih1, ih2, ih3⟩ := laws_FnBodies.mono_l k
 unfold laws_FnBodies.f
 repeat' first
   | (with_reducible exact ih0 _ _ _ _ _ _ _ _ _ _ _ _ _ _ _ _ _)
   | (with_reducible exact ih1 _ _ _ _ _ _ _ _ _ _ _ _)
   | (with_reducible exact ih2 _ _ _ _ _ _ _ _)
   | (with_reducible exact ih3 _ _ _ _ _ _ _ _ _)
   | (with_reducible exact impl_BodyCentre.mono _ _)
   | (with_reducible exact impl_BodySide.mono _ _)
   | (with_reducible exact impl_GroundOf.mono _ _)
   | (with_reducible exact impl_IsBody.mono _ _)
   | (with_reducible exact impl_MirrorBody.mono _ _)
   | (with_reducible exact impl_PutDown.mono _ _)
   | (with_reducible exact impl_StandingTurns.mono _ _)
   | (with_reducible exact impl_TumbleBody.mono _ _)
   | (with_reducible exact impl_TurnBody.mono _ _ _)
   | (with_reducible exact laws_rCells.mono _ _ _)
   | (with_reducible exact laws_rHas.mono _ _ _)
   | (with_reducible exact laws_rInts.mono _ _ _)
   | (with_reducible exact spec_BodyCentre.mono _ _)
   | (with_reducible exact spec_BodySide.mono _ _)
   | (with_reducible exact spec_DrawBodySide.mono _ _)
   | (with_reducible exact spec_DrawPutDown.mono _ _)
   | (with_reducible exact spec_DrawTurnBody.mono _ _)
   | (with_reducible exact spec_GroundOf.mono _ _)
   | (with_reducible exact spec_MirrorBody.mono _ _)
   | (with_reducible exact spec_PutDown.mono _ _)
   | (with_reducible exact spec_StandingTurns.mono _ _)
   | (with_reducible exact spec_TumbleBody.mono _ _)
   | (with_reducible exact spec_TurnBody.mono _ _ _)
   | (with_reducible exact LeO.refl _)
   | (with_reducible exact LeO.none _)
   | (with_reducible refine LeO.ite ?_ ?_)
   | (with_reducible refine LeO.bind ?_ (fun _ => ?_))
set_option maxHeartbeats 8000000 in
set_option maxRecDepth 100000 in
theorem laws_FnBodies.calls (k : Nat) (A0 : Option Addr) (c0 : Nat) (l0 : List Int) (r : Bool) (w : World) (hr0 : Kd.C (Kd.int .u8) w A0 l0.length l0) (hc0 : l0.length ≤ c0) (h : laws_FnBodies.f k l0 = some r) :
  Calls Try.prog 10 #[.slice A0 l0.length c0] w fun e w' => e = .returned (.bool r) ∧ Below w.heap.size w w' := by
 have hu49 := Try.underlying49; have HR0 := ak hr0; have HC0 := ak hc0; clear hr0 hc0; have HB := ak (Below.refl w.heap.size w); have H := h; clear h
 unfold laws_FnBodies.f at H
 obtain ⟨t596, A20, H⟩ := Option.bind_eq_some_iff.mp H
 have A2 := ak A20; clear A20
 by_cases c3 : t596 = true
 ·subst c3
  rw [if_pos rfl] at H; obtain rfl := Option.some.inj H
  go_enter Try.func10, Try.ntmps10
  as_aux_lemma =>
   go_wp2_with (((with_reducible refine gate_callee (f := 31) rfl ?_); refine goesL_ (some 59) rfl rfl Try.func31 (by kernel_rfl) rfl #[.slice A0 l0.length c0] rfl aq ?_; (with_reducible refine (laws_rBig.calls _ _ l0 true _ ?side1 ?side2 A2.out).mono ?_); (case side1 => exact cq HR0.out); (case side2 => exact HC0.out); rintro e w' ⟨rfl, ⟨nd, rfl⟩⟩; refine ⟨_, rfl, ?_⟩))
   go_ret; exact ⟨eq_, bq⟩
 ·replace c3 := Bool.eq_false_iff.mpr c3
  subst c3; rw [if_neg (show ¬ (false = true) by decide)] at H; obtain ⟨t597, A40, H⟩ := Option.bind_eq_some_iff.mp H
  have A4 := ak A40; clear A40; obtain ⟨⟨t600, t601⟩, A50, H⟩ := Option.bind_eq_some_iff.mp H
  (try dsimp only at H)
  have A5 := ak A50; clear A50; obtain ⟨⟨t602, t603⟩, A60, H⟩ := Option.bind_eq_some_iff.mp H
  (try dsimp only at H)
  have A6 := ak A60; clear A60
  by_cases c7 : t600 = t602
  ·rw [if_pos c7] at H
   have c7b0 : (t600 == t602) = true := beq_iff_eq.mpr c7; have c7b1 : (t600 != t602) = false := bne_eq_false_iff_eq.mpr c7; clear c7
   by_cases c8 : (t601 != t603) = true
   ·rw [if_pos c8] at H
    exact absurd H (by simp)
   ·rw [if_neg c8] at H
    have c8b0 : (t601 != t603) = false := by simpa using c8
    (try (have c8b1 : decide (t601 = t603) = true := by simpa using c8))
    (try (have c8b2 : (t601 == t603) = true := by simpa using c8))
    clear c8; obtain ⟨t604, A90, H⟩ := Option.bind_eq_some_iff.mp H
    have A9 := ak A90; clear A90
    by_cases c10 : (t601 != t604) = true
    ·rw [if_pos c10] at H
     exact absurd H (by simp)
    ·rw [if_neg c10] at H
     have c10b0 : (t601 != t604) = false := by simpa using c10
     (try (have c10b1 : decide (t601 = t604) = true := by simpa using c10))
     (try (have c10b2 : (t601 == t604) = true := by simpa using c10))
     clear c10; obtain ⟨⟨t605, t606, t607, t608, t609⟩, A110, H⟩ := Option.bind_eq_some_iff.mp H
     (try dsimp only at H)
     have A11 := ak A110; clear A110; obtain ⟨⟨t612, t613, t614, t615, t616⟩, A120, H⟩ := Option.bind_eq_some_iff.mp H
     (try dsimp only at H)
     have A12 := ak A120; clear A120
     by_cases c13 : (!(t605 == t612) || (!(t606 == t613))) = true
     ·rw [if_pos c13] at H
      exact absurd H (by simp)
     ·rw [if_neg c13] at H
      have c13b0 : (!(t605 == t612) || (!(t606 == t613))) = false := by simpa using c13
      clear c13
      by_cases c14 : (!(t607 == t614) || (!(t608 == t615))) = true
      ·rw [if_pos c14] at H
       exact absurd H (by simp)
      ·rw [if_neg c14] at H
       have c14b0 : (!(t607 == t614) || (!(t608 == t615))) = false := by simpa using c14
       clear c14
       by_cases c15 : (t609 != t616) = true
       ·rw [if_pos c15] at H
        exact absurd H (by simp)
       ·rw [if_neg c15] at H
        have c15b0 : (t609 != t616) = false := by simpa using c15
        (try (have c15b1 : decide (t609 = t616) = true := by simpa using c15))
        (try (have c15b2 : (t609 == t616) = true := by simpa using c15))
        clear c15
        by_cases c16 : (t609 != t601) = true
        ·rw [if_pos c16] at H
         exact absurd H (by simp)
        ·rw [if_neg c16] at H
         have c16b0 : (t609 != t601) = false := by simpa using c16
         (try (have c16b1 : decide (t609 = t601) = true := by simpa using c16))
         (try (have c16b2 : (t609 == t601) = true := by simpa using c16))
         clear c16; obtain ⟨⟨t619, t620, t621⟩, A170, H⟩ := Option.bind_eq_some_iff.mp H
         (try dsimp only at H)
         have A17 := ak A170; clear A170; obtain ⟨⟨t622, t623, t624⟩, A180, H⟩ := Option.bind_eq_some_iff.mp H
         (try dsimp only at H)
         have A18 := ak A180; clear A180
         by_cases c19 : t619 = t622
         ·rw [if_pos c19] at H
          have c19b0 : (t619 == t622) = true := beq_iff_eq.mpr c19; have c19b1 : (t619 != t622) = false := bne_eq_false_iff_eq.mpr c19; clear c19
          by_cases c20 : t620 = t623
          ·rw [if_pos c20] at H
           have c20b0 : (t620 == t623) = true := beq_iff_eq.mpr c20; have c20b1 : (t620 != t623) = false := bne_eq_false_iff_eq.mpr c20; clear c20
           by_cases c21 : (t621 != t624) = true
           ·rw [if_pos c21] at H
            exact absurd H (by simp)
           ·rw [if_neg c21] at H
            have c21b0 : (t621 != t624) = false := by simpa using c21
            (try (have c21b1 : decide (t621 = t624) = true := by simpa using c21))
            (try (have c21b2 : (t621 == t624) = true := by simpa using c21))
            clear c21
            by_cases c22 : (t621 != t601) = true
            ·rw [if_pos c22] at H
             exact absurd H (by simp)
            ·rw [if_neg c22] at H
             have c22b0 : (t621 != t601) = false := by simpa using c22
             (try (have c22b1 : decide (t621 = t601) = true := by simpa using c22))
             (try (have c22b2 : (t621 == t601) = true := by simpa using c22))
             clear c22; obtain ⟨⟨t625, t626⟩, A230, H⟩ := Option.bind_eq_some_iff.mp H
             (try dsimp only at H)
             have A23 := ak A230; clear A230; obtain ⟨⟨t629, t630⟩, A240, H⟩ := Option.bind_eq_some_iff.mp H
             (try dsimp only at H)
             have A24 := ak A240; clear A240
             by_cases c25 : (t626 != t630) = true
             ·rw [if_pos c25] at H
              exact absurd H (by simp)
             ·rw [if_neg c25] at H
              have c25b0 : (t626 != t630) = false := by simpa using c25
              (try (have c25b1 : decide (t626 = t630) = true := by simpa using c25))
              (try (have c25b2 : (t626 == t630) = true := by simpa using c25))
              clear c25
              by_cases c26 : (t626 != t601) = true
              ·rw [if_pos c26] at H
               exact absurd H (by simp)
              ·rw [if_neg c26] at H
               have c26b0 : (t626 != t601) = false := by simpa using c26
               (try (have c26b1 : decide (t626 = t601) = true := by simpa using c26))
               (try (have c26b2 : (t626 == t601) = true := by simpa using c26))
               clear c26; obtain ⟨t633, A270, H⟩ := Option.bind_eq_some_iff.mp H
               have A27 := ak A270; clear A270
               by_cases c28 : t633 = true
               ·subst c28
                rw [if_pos rfl] at H; obtain ⟨⟨t634, t635, t636⟩, A290, H⟩ := Option.bind_eq_some_iff.mp H
                (try dsimp only at H)
                have A29 := ak A290; clear A290; obtain ⟨⟨t639, t640, t641⟩, A300, H⟩ := Option.bind_eq_some_iff.mp H
                (try dsimp only at H)
                have A30 := ak A300; clear A300
                by_cases c31 : t635 = t640
                ·rw [if_pos c31] at H
                 have c31b0 : (t635 == t640) = true := beq_iff_eq.mpr c31; have c31b1 : (t635 != t640) = false := bne_eq_false_iff_eq.mpr c31; clear c31
                 by_cases c32 : (t636 != t641) = true
                 ·rw [if_pos c32] at H
                  exact absurd H (by simp)
                 ·rw [if_neg c32] at H
                  have c32b0 : (t636 != t641) = false := by simpa using c32
                  (try (have c32b1 : decide (t636 = t641) = true := by simpa using c32))
                  (try (have c32b2 : (t636 == t641) = true := by simpa using c32))
                  clear c32; obtain ⟨t644, A330, H⟩ := Option.bind_eq_some_iff.mp H
                  have A33 := ak A330; clear A330
                  by_cases c34 : t644 = true
                  ·subst c34
                   rw [if_pos rfl] at H; obtain ⟨⟨t645, t648⟩, A350, H⟩ := Option.bind_eq_some_iff.mp H
                   (try dsimp only at H)
                   have A35 := ak A350; clear A350; obtain ⟨⟨t649, t652⟩, A360, H⟩ := Option.bind_eq_some_iff.mp H
                   (try dsimp only at H)
                   have A36 := ak A360; clear A360
                   by_cases c37 : (t648 != t652) = true
                   ·rw [if_pos c37] at H
                    exact absurd H (by simp)
                   ·rw [if_neg c37] at H
                    have c37b0 : (t648 != t652) = false := by simpa using c37
                    (try (have c37b1 : decide (t648 = t652) = true := by simpa using c37))
                    (try (have c37b2 : (t648 == t652) = true := by simpa using c37))
                    clear c37
                    by_cases c38 : (t648 != t601) = true
                    ·rw [if_pos c38] at H
                     exact absurd H (by simp)
                    ·rw [if_neg c38] at H
                     have c38b0 : (t648 != t601) = false := by simpa using c38
                     (try (have c38b1 : decide (t648 = t601) = true := by simpa using c38))
                     (try (have c38b2 : (t648 == t601) = true := by simpa using c38))
                     clear c38; obtain ⟨t653, A390, H⟩ := Option.bind_eq_some_iff.mp H
                     have A39 := ak A390; clear A390
                     by_cases c40 : t653 = true
                     ·subst c40
                      rw [if_pos rfl] at H; obtain ⟨⟨t654, t655⟩, A410, H⟩ := Option.bind_eq_some_iff.mp H
                      (try dsimp only at H)
                      have A41 := ak A410; clear A410; obtain ⟨⟨t658, t659⟩, A420, H⟩ := Option.bind_eq_some_iff.mp H
                      (try dsimp only at H)
                      have A42 := ak A420; clear A420; obtain ⟨⟨t662, t663⟩, A430, H⟩ := Option.bind_eq_some_iff.mp H
                      (try dsimp only at H)
                      have A43 := ak A430; clear A430
                      by_cases c44 : (t659 != t663) = true
                      ·rw [if_pos c44] at H
                       exact absurd H (by simp)
                      ·rw [if_neg c44] at H
                       have c44b0 : (t659 != t663) = false := by simpa using c44
                       (try (have c44b1 : decide (t659 = t663) = true := by simpa using c44))
                       (try (have c44b2 : (t659 == t663) = true := by simpa using c44))
                       clear c44; obtain ⟨t666, A450, H⟩ := Option.bind_eq_some_iff.mp H
                       have A45 := ak A450; clear A450
                       by_cases c46 : t666 = true
                       ·subst c46
                        rw [if_pos rfl] at H; obtain ⟨t667, A470, H⟩ := Option.bind_eq_some_iff.mp H
                        have A47 := ak A470; clear A470; obtain ⟨⟨t670, t671⟩, A480, H⟩ := Option.bind_eq_some_iff.mp H
                        (try dsimp only at H)
                        have A48 := ak A480; clear A480; obtain ⟨⟨t674, t675⟩, A490, H⟩ := Option.bind_eq_some_iff.mp H
                        (try dsimp only at H)
                        have A49 := ak A490; clear A490; have HC50 := ak H; clear H
                        go_enter Try.func10, Try.ntmps10
                        as_aux_lemma =>
                         go_upto_region 36 with (first | ((with_reducible refine gate_callee (f := 31) rfl ?_); refine goesL_ (some 59) rfl rfl Try.func31 (by kernel_rfl) rfl #[.slice A0 l0.length c0] rfl aq ?_; (with_reducible refine (laws_rBig.calls _ _ l0 false _ ?side1 ?side2 A2.out).mono ?_); (case side1 => exact cq HR0.out); (case side2 => exact HC0.out); rintro e w' ⟨rfl, ⟨nd, rfl⟩⟩; refine ⟨_, rfl, ?_⟩) | ((with_reducible refine gate_callee (f := 38) rfl ?_); refine goesL_ (some 61) rfl rfl Try.func38 (by kernel_rfl) rfl #[.slice A0 l0.length c0] rfl aq ?_; (with_reducible refine (spec_DrawBodySide.calls k _ _ l0 t597 _ ?side1 ?side2 A4.out).mono ?_); (case side1 => exact cq HR0.out); (case side2 => exact HC0.out); rintro e w51 ⟨v598, rfl, ho0, hb⟩; refine ⟨_, rfl, ?_⟩; have n0_ := ak (Kd.R_lower ho0 (below_size bq)); have n1_ := ak (below_step bq hb); clear HB; have HO599 := n0_; have HB := n1_; clear n0_ n1_; (try clear hb); (try clear ho0); obtain ⟨Ao52, co52, eo52⟩ := Kd.R_slice HO599.out; subst eo52) | ((with_reducible refine gate_callee (f := 36) rfl ?_); refine goesL_ (some 64) rfl rfl Try.func36 (by kernel_rfl) rfl #[.slice Ao52 t597.length co52] rfl aq ?_; (with_reducible refine (impl_BodySide.calls k _ _ t597 t600 t601 _ ?side1 ?side2 A5.out).mono ?_); (case side1 => exact cq (Kd.R_reads' HO599.out).2.2); (case side2 => exact (Kd.R_reads' HO599.out).2.1); rintro e w53 ⟨rfl, hb⟩; refine ⟨_, rfl, ?_⟩; have n0_ := ak (Kd.R_below (rq HO599) hb); have n1_ := ak (below_step bq hb); clear HO599; clear HB; have HO599 := n0_; have HB := n1_; clear n0_ n1_; (try clear hb)) | ((with_reducible refine gate_callee (f := 37) rfl ?_); refine goesL_ (some 69) rfl rfl Try.func37 (by kernel_rfl) rfl #[.slice Ao52 t597.length co52] rfl aq ?_; (with_reducible refine (spec_BodySide.calls k _ _ t597 t602 t603 _ ?side1 ?side2 A6.out).mono ?_); (case side1 => exact cq (Kd.R_reads' HO599.out).2.2); (case side2 => exact (Kd.R_reads' HO599.out).2.1); rintro e w54 ⟨rfl, hb⟩; refine ⟨_, rfl, ?_⟩; have n0_ := ak (Kd.R_below (rq HO599) hb); have n1_ := ak (below_step bq hb); clear HO599; clear HB; have HO599 := n0_; have HB := n1_; clear n0_ n1_; (try clear hb)) | (go_at_call 34; (with_reducible refine (impl_IsBody.calls k _ _ t597 t604 _ ?side1 ?side2 A9.out).mono ?_); (case side1 => exact cq (Kd.R_reads' HO599.out).2.2); (case side2 => exact (Kd.R_reads' HO599.out).2.1); rintro e w55 ⟨rfl, hb⟩; have n0_ := ak (Kd.R_below (rq HO599) hb); have n1_ := ak (below_step bq hb); clear HO599; clear HB; have HO599 := n0_; have HB := n1_; clear n0_ n1_; (try clear hb)) | ((with_reducible refine gate_callee (f := 39) rfl ?_); refine goesL_ (some 88) rfl rfl Try.func39 (by kernel_rfl) rfl #[.slice Ao52 t597.length co52] rfl aq ?_; (with_reducible refine (impl_BodyCentre.calls k _ _ t597 t605 t606 t607 t608 t609 _ ?side1 ?side2 A11.out).mono ?_); (case side1 => exact cq (Kd.R_reads' HO599.out).2.2); (case side2 => exact (Kd.R_reads' HO599.out).2.1); rintro e w56 ⟨rfl, hb⟩; refine ⟨_, rfl, ?_⟩; have n0_ := ak (Kd.R_below (rq HO599) hb); have n1_ := ak (below_step bq hb); clear HO599; clear HB; have HO599 := n0_; have HB := n1_; clear n0_ n1_; (try clear hb)) | ((with_reducible refine gate_dst (N := 8) rfl ?_); (try (refine gate_guard (by rfl) ?_; dsimp only)); refine box_event ?hg (N := 8) ?hd (cs := #[.int .i64 0, .int .i64 0]) (t := 49) ?hr ?_; (case hd => rfl); (case hg => rfl); (case hr => (go_simp; done)); intro gb610 hg w57 hbox hb; have n0_ := ak (Kd.R_below (Kd.R_elderB (rq HO599) gb610 (Nat.le_of_eq hg.symm)) hb); have n1_ := ak (below_step bq hb); have n2_ := ak (hbox); have n3_ := ak ((by rw [hg]; exact (below_size bq) : w.heap.size ≤ gb610)); have n4_ := ak ((by rw [hg]; exact (below_size bq) : w.heap.size ≤ gb610)); clear HO599; clear HB; have HO599 := n0_; have HB := n1_; have BK610 := n2_; have GW610 := n3_; have GE610 := n4_; clear n0_ n1_ n2_ n3_ n4_; clear hb hbox hg) | ((with_reducible refine gate_dst (N := 9) rfl ?_); (try (refine gate_guard (by rfl) ?_; dsimp only)); refine box_event ?hg (N := 9) ?hd (cs := #[.int .i64 0, .int .i64 0]) (t := 49) ?hr ?_; (case hd => rfl); (case hg => rfl); (case hr => (go_simp; done)); intro gb611 hg w58 hbox hb; have n0_ := ak (Kd.R_below (Kd.R_elderB (rq HO599) gb611 (Nat.le_of_eq hg.symm)) hb); have n1_ := ak (blk_below (g := gb610) (o := .cells #[.int .i64 0, .int .i64 0] 49 (0, 0)) (uq BK610) hb); have n2_ := ak (below_step bs hb); have n3_ := ak (hbox); have n4_ := ak ((by rw [hg]; exact (below_size bs) : w.heap.size ≤ gb611)); have n5_ := ak ((by rw [hg]; exact (below_size bs) : w.heap.size ≤ gb611)); have n6_ := ak ((by rw [hg]; exact Nat.ne_of_lt (blk_lt (g := gb610) (o := .cells #[.int .i64 0, .int .i64 0] 49 (0, 0)) (uq BK610)) : gb610 ≠ gb611)); have n7_ := ak ((by rw [hg]; exact Nat.ne_of_gt (blk_lt (g := gb610) (o := .cells #[.int .i64 0, .int .i64 0] 49 (0, 0)) (uq BK610)) : gb611 ≠ gb610)); clear HO599; clear BK610; clear HB; have HO599 := n0_; have BK610 := n1_; have HB := n2_; have BK611 := n3_; have GW611 := n4_; have GE611 := n5_; have NB610_611 := n6_; have NB611_610 := n7_; clear n0_ n1_ n2_ n3_ n4_ n5_ n6_ n7_; clear hb hbox hg; have hnb59 := NB610_611.out; have hnc59 := NB611_610.out; have hcz60_0 : w58.cell? ⟨gb610, 0, none⟩ = some (.int .i64 0) := (blk_cell BK610.out 0).trans rfl; have hcz60_1 : w58.cell? ⟨gb610, 1, none⟩ = some (.int .i64 0) := (blk_cell BK610.out 1).trans rfl; have hfz60_0 := blk_frozen BK610.out 0; have hfz60_1 := blk_frozen BK610.out 1; have hcz61_0 : w58.cell? ⟨gb611, 0, none⟩ = some (.int .i64 0) := (blk_cell BK611.out 0).trans rfl; have hcz61_1 : w58.cell? ⟨gb611, 1, none⟩ = some (.int .i64 0) := (blk_cell BK611.out 1).trans rfl; have hfz61_0 := blk_frozen BK611.out 0; have hfz61_1 := blk_frozen BK611.out 1) | ((with_reducible refine gate_callee (f := 40) rfl ?_); refine goesL_ (some 94) rfl rfl Try.func40 (by kernel_rfl) rfl #[.slice Ao52 t597.length co52] rfl aq ?_; (with_reducible refine (spec_BodyCentre.calls k _ _ t597 t612 t613 t614 t615 t616 _ ?side1 ?side2 A12.out).mono ?_); (case side1 => refine (Kd.R_reads' (e := 49) (base := w.heap.size) (ok := fun k_ => ((True ∧ k_ ≠ gb610) ∧ k_ ≠ gb611)) (n := t597.length) (c := co52) ?_).2.2; exact (by exact (Kd.R_mono (Kd.R_mono (Kd.R_far (p := ⟨gb611, 1, none⟩) (Kd.R_far (p := ⟨gb611, 0, none⟩) (Kd.R_far (p := ⟨gb610, 1, none⟩) (Kd.R_far (p := ⟨gb610, 0, none⟩) (Kd.R_mono (Kd.R_mono HO599.out (fun k_ hk => (⟨hk, hk.1.2⟩ : _ ∧ k_ ≠ gb610))) (fun k_ hk => (⟨hk, hk.1.2⟩ : _ ∧ k_ ≠ gb611))) (fun _ hk => hk.1.2) (.int .i64 t605)) (fun _ hk => hk.1.2) (.int .i64 t606)) (fun _ hk => hk.2) (.int .i64 t607)) (fun _ hk => hk.2) (.int .i64 t608)) (fun _ h_ => h_.1)) (fun _ h_ => h_.1)))); (case side2 => exact (Kd.R_reads' HO599.out).2.1); rintro e w62 ⟨rfl, hb⟩; refine ⟨_, rfl, ?_⟩; have n0_ := ak (Kd.R_below (by exact (Kd.R_mono (Kd.R_mono (Kd.R_far (p := ⟨gb611, 1, none⟩) (Kd.R_far (p := ⟨gb611, 0, none⟩) (Kd.R_far (p := ⟨gb610, 1, none⟩) (Kd.R_far (p := ⟨gb610, 0, none⟩) (Kd.R_mono (Kd.R_mono HO599.out (fun k_ hk => (⟨hk, hk.1.2⟩ : _ ∧ k_ ≠ gb610))) (fun k_ hk => (⟨hk, hk.1.2⟩ : _ ∧ k_ ≠ gb611))) (fun _ hk => hk.1.2) (.int .i64 t605)) (fun _ hk => hk.1.2) (.int .i64 t606)) (fun _ hk => hk.2) (.int .i64 t607)) (fun _ hk => hk.2) (.int .i64 t608)) (fun _ h_ => h_.1)) (fun _ h_ => h_.1))) hb); have n1_ := ak (blk_below (g := gb610) (o := .cells #[.int .i64 t605, .int .i64 t606] 49 (0, 0)) (by refine blk_far ?_ NB610_611.out _; refine blk_far ?_ NB610_611.out _; refine blk_put (cs := #[.int .i64 t605, .int .i64 0]) ?_ 1 _ rfl; refine blk_put (cs := #[.int .i64 0, .int .i64 0]) ?_ 0 _ rfl; exact BK610.out) hb); have n2_ := ak (blk_below (g := gb611) (o := .cells #[.int .i64 t607, .int .i64 t608] 49 (0, 0)) (by refine blk_put (cs := #[.int .i64 t607, .int .i64 0]) ?_ 1 _ rfl; refine blk_put (cs := #[.int .i64 0, .int .i64 0]) ?_ 0 _ rfl; refine blk_far ?_ NB611_610.out _; refine blk_far ?_ NB611_610.out _; exact BK611.out) hb); have n3_ := ak (below_step bs hb); clear HO599; clear BK610; clear BK611; clear HB; have HO599 := n0_; have BK610 := n1_; have BK611 := n2_; have HB := n3_; clear n0_ n1_ n2_ n3_; (try clear hb)) | ((with_reducible refine gate_dst (N := 11) rfl ?_); (try (refine gate_guard (by rfl) ?_; dsimp only)); refine box_event ?hg (N := 11) ?hd (cs := #[.int .i64 0, .int .i64 0]) (t := 49) ?hr ?_; (case hd => rfl); (case hg => rfl); (case hr => (go_simp; done)); intro gb617 hg w63 hbox hb; have n0_ := ak (Kd.R_below (Kd.R_elderB (rq HO599) gb617 (Nat.le_of_eq hg.symm)) hb); have n1_ := ak (blk_below (g := gb610) (o := .cells #[.int .i64 t605, .int .i64 t606] 49 (0, 0)) (uq BK610) hb); have n2_ := ak (blk_below (g := gb611) (o := .cells #[.int .i64 t607, .int .i64 t608] 49 (0, 0)) (uq BK611) hb); have n3_ := ak (below_step bs hb); have n4_ := ak (hbox); have n5_ := ak ((by rw [hg]; exact (below_size bs) : w.heap.size ≤ gb617)); have n6_ := ak ((by rw [hg]; exact (below_size bs) : w.heap.size ≤ gb617)); have n7_ := ak ((by rw [hg]; exact Nat.ne_of_lt (blk_lt (g := gb610) (o := .cells #[.int .i64 t605, .int .i64 t606] 49 (0, 0)) (uq BK610)) : gb610 ≠ gb617)); have n8_ := ak ((by rw [hg]; exact Nat.ne_of_gt (blk_lt (g := gb610) (o := .cells #[.int .i64 t605, .int .i64 t606] 49 (0, 0)) (uq BK610)) : gb617 ≠ gb610)); have n9_ := ak ((by rw [hg]; exact Nat.ne_of_lt (blk_lt (g := gb611) (o := .cells #[.int .i64 t607, .int .i64 t608] 49 (0, 0)) (uq BK611)) : gb611 ≠ gb617)); have n10_ := ak ((by rw [hg]; exact Nat.ne_of_gt (blk_lt (g := gb611) (o := .cells #[.int .i64 t607, .int .i64 t608] 49 (0, 0)) (uq BK611)) : gb617 ≠ gb611)); clear HO599; clear BK610; clear BK611; clear HB; have HO599 := n0_; have BK610 := n1_; have BK611 := n2_; have HB := n3_; have BK617 := n4_; have GW617 := n5_; have GE617 := n6_; have NB610_617 := n7_; have NB617_610 := n8_; have NB611_617 := n9_; have NB617_611 := n10_; clear n0_ n1_ n2_ n3_ n4_ n5_ n6_ n7_ n8_ n9_ n10_; clear hb hbox hg) | ((with_reducible refine gate_dst (N := 12) rfl ?_); (try (refine gate_guard (by rfl) ?_; dsimp only)); refine box_event ?hg (N := 12) ?hd (cs := #[.int .i64 0, .int .i64 0]) (t := 49) ?hr ?_; (case hd => rfl); (case hg => rfl); (case hr => (go_simp; done)); intro gb618 hg w64 hbox hb; have n0_ := ak (Kd.R_below (Kd.R_elderB (rq HO599) gb618 (Nat.le_of_eq hg.symm)) hb); have n1_ := ak (blk_below (g := gb610) (o := .cells #[.int .i64 t605, .int .i64 t606] 49 (0, 0)) (uq BK610) hb); have n2_ := ak (blk_below (g := gb611) (o := .cells #[.int .i64 t607, .int .i64 t608] 49 (0, 0)) (uq BK611) hb); have n3_ := ak (blk_below (g := gb617) (o := .cells #[.int .i64 0, .int .i64 0] 49 (0, 0)) (uq BK617) hb); have n4_ := ak (below_step bs hb); have n5_ := ak (hbox); have n6_ := ak ((by rw [hg]; exact (below_size bs) : w.heap.size ≤ gb618)); have n7_ := ak ((by rw [hg]; exact (below_size bs) : w.heap.size ≤ gb618)); have n8_ := ak ((by rw [hg]; exact Nat.ne_of_lt (blk_lt (g := gb610) (o := .cells #[.int .i64 t605, .int .i64 t606] 49 (0, 0)) (uq BK610)) : gb610 ≠ gb618)); have n9_ := ak ((by rw [hg]; exact Nat.ne_of_gt (blk_lt (g := gb610) (o := .cells #[.int .i64 t605, .int .i64 t606] 49 (0, 0)) (uq BK610)) : gb618 ≠ gb610)); have n10_ := ak ((by rw [hg]; exact Nat.ne_of_lt (blk_lt (g := gb611) (o := .cells #[.int .i64 t607, .int .i64 t608] 49 (0, 0)) (uq BK611)) : gb611 ≠ gb618)); have n11_ := ak ((by rw [hg]; exact Nat.ne_of_gt (blk_lt (g := gb611) (o := .cells #[.int .i64 t607, .int .i64 t608] 49 (0, 0)) (uq BK611)) : gb618 ≠ gb611)); have n12_ := ak ((by rw [hg]; exact Nat.ne_of_lt (blk_lt (g := gb617) (o := .cells #[.int .i64 0, .int .i64 0] 49 (0, 0)) (uq BK617)) : gb617 ≠ gb618)); have n13_ := ak ((by rw [hg]; exact Nat.ne_of_gt (blk_lt (g := gb617) (o := .cells #[.int .i64 0, .int .i64 0] 49 (0, 0)) (uq BK617)) : gb618 ≠ gb617)); clear HO599; clear BK610; clear BK611; clear BK617; clear HB; have HO599 := n0_; have BK610 := n1_; have BK611 := n2_; have BK617 := n3_; have HB := n4_; have BK618 := n5_; have GW618 := n6_; have GE618 := n7_; have NB610_618 := n8_; have NB618_610 := n9_; have NB611_618 := n10_; have NB618_611 := n11_; have NB617_618 := n12_; have NB618_617 := n13_; clear n0_ n1_ n2_ n3_ n4_ n5_ n6_ n7_ n8_ n9_ n10_ n11_ n12_ n13_; clear hb hbox hg; have hnb65 := NB617_610.out; have hnc65 := NB610_617.out; have hnb66 := NB617_611.out; have hnc66 := NB611_617.out; have hnb67 := NB617_618.out; have hnc67 := NB618_617.out; have hcz68_0 : w64.cell? ⟨gb617, 0, none⟩ = some (.int .i64 0) := (blk_cell BK617.out 0).trans rfl; have hcz68_1 : w64.cell? ⟨gb617, 1, none⟩ = some (.int .i64 0) := (blk_cell BK617.out 1).trans rfl; have hfz68_0 := blk_frozen BK617.out 0; have hfz68_1 := blk_frozen BK617.out 1; have hnb69 := NB618_610.out; have hnc69 := NB610_618.out; have hnb70 := NB618_611.out; have hnc70 := NB611_618.out; have hcz71_0 : w64.cell? ⟨gb618, 0, none⟩ = some (.int .i64 0) := (blk_cell BK618.out 0).trans rfl; have hcz71_1 : w64.cell? ⟨gb618, 1, none⟩ = some (.int .i64 0) := (blk_cell BK618.out 1).trans rfl; have hfz71_0 := blk_frozen BK618.out 0; have hfz71_1 := blk_frozen BK618.out 1; have hcz72_0 : w64.cell? ⟨gb610, 0, none⟩ = some (.int .i64 t605) := (blk_cell BK610.out 0).trans rfl; have hcz72_1 : w64.cell? ⟨gb610, 1, none⟩ = some (.int .i64 t606) := (blk_cell BK610.out 1).trans rfl; have hfz72_0 := blk_frozen BK610.out 0; have hfz72_1 := blk_frozen BK610.out 1; have hcz73_0 : w64.cell? ⟨gb611, 0, none⟩ = some (.int .i64 t607) := (blk_cell BK611.out 0).trans rfl; have hcz73_1 : w64.cell? ⟨gb611, 1, none⟩ = some (.int .i64 t608) := (blk_cell BK611.out 1).trans rfl; have hfz73_0 := blk_frozen BK611.out 0; have hfz73_1 := blk_frozen BK611.out 1) | ((with_reducible refine gate_callee (f := 41) rfl ?_); refine goesL_ (some 118) rfl rfl Try.func41 (by kernel_rfl) rfl #[.slice Ao52 t597.length co52] rfl aq ?_; (with_reducible refine (impl_GroundOf.calls k _ _ t597 t619 t620 t621 _ ?side1 ?side2 A17.out).mono ?_); (case side1 => refine (Kd.R_reads' (e := 49) (base := w.heap.size) (ok := fun k_ => ((((True ∧ k_ ≠ gb610) ∧ k_ ≠ gb611) ∧ k_ ≠ gb617) ∧ k_ ≠ gb618)) (n := t597.length) (c := co52) ?_).2.2; exact (by exact (Kd.R_mono (Kd.R_mono (Kd.R_far (p := ⟨gb618, 1, none⟩) (Kd.R_far (p := ⟨gb618, 0, none⟩) (Kd.R_far (p := ⟨gb617, 1, none⟩) (Kd.R_far (p := ⟨gb617, 0, none⟩) (Kd.R_mono (Kd.R_mono HO599.out (fun k_ hk => (⟨hk, hk.1.2⟩ : _ ∧ k_ ≠ gb617))) (fun k_ hk => (⟨hk, hk.1.2⟩ : _ ∧ k_ ≠ gb618))) (fun _ hk => hk.1.2) (.int .i64 t612)) (fun _ hk => hk.1.2) (.int .i64 t613)) (fun _ hk => hk.2) (.int .i64 t614)) (fun _ hk => hk.2) (.int .i64 t615)) (fun _ h_ => h_.1)) (fun _ h_ => h_.1)))); (case side2 => exact (Kd.R_reads' HO599.out).2.1); rintro e w74 ⟨rfl, hb⟩; refine ⟨_, rfl, ?_⟩; have n0_ := ak (Kd.R_below (by exact (Kd.R_mono (Kd.R_mono (Kd.R_far (p := ⟨gb618, 1, none⟩) (Kd.R_far (p := ⟨gb618, 0, none⟩) (Kd.R_far (p := ⟨gb617, 1, none⟩) (Kd.R_far (p := ⟨gb617, 0, none⟩) (Kd.R_mono (Kd.R_mono HO599.out (fun k_ hk => (⟨hk, hk.1.2⟩ : _ ∧ k_ ≠ gb617))) (fun k_ hk => (⟨hk, hk.1.2⟩ : _ ∧ k_ ≠ gb618))) (fun _ hk => hk.1.2) (.int .i64 t612)) (fun _ hk => hk.1.2) (.int .i64 t613)) (fun _ hk => hk.2) (.int .i64 t614)) (fun _ hk => hk.2) (.int .i64 t615)) (fun _ h_ => h_.1)) (fun _ h_ => h_.1))) hb); have n1_ := ak (blk_below (g := gb610) (o := .cells #[.int .i64 t605, .int .i64 t606] 49 (0, 0)) (by refine blk_far ?_ NB610_618.out _; refine blk_far ?_ NB610_618.out _; refine blk_far ?_ NB610_617.out _; refine blk_far ?_ NB610_617.out _; exact BK610.out) hb); have n2_ := ak (blk_below (g := gb611) (o := .cells #[.int .i64 t607, .int .i64 t608] 49 (0, 0)) (by refine blk_far ?_ NB611_618.out _; refine blk_far ?_ NB611_618.out _; refine blk_far ?_ NB611_617.out _; refine blk_far ?_ NB611_617.out _; exact BK611.out) hb); have n3_ := ak (blk_below (g := gb617) (o := .cells #[.int .i64 t612, .int .i64 t613] 49 (0, 0)) (by refine blk_far ?_ NB617_618.out _; refine blk_far ?_ NB617_618.out _; refine blk_put (cs := #[.int .i64 t612, .int .i64 0]) ?_ 1 _ rfl; refine blk_put (cs := #[.int .i64 0, .int .i64 0]) ?_ 0 _ rfl; exact BK617.out) hb); have n4_ := ak (blk_below (g := gb618) (o := .cells #[.int .i64 t614, .int .i64 t615] 49 (0, 0)) (by refine blk_put (cs := #[.int .i64 t614, .int .i64 0]) ?_ 1 _ rfl; refine blk_put (cs := #[.int .i64 0, .int .i64 0]) ?_ 0 _ rfl; refine blk_far ?_ NB618_617.out _; refine blk_far ?_ NB618_617.out _; exact BK618.out) hb); have n5_ := ak (below_step bs hb); clear HO599; clear BK610; clear BK611; clear BK617; clear BK618; clear HB; have HO599 := n0_; have BK610 := n1_; have BK611 := n2_; have BK617 := n3_; have BK618 := n4_; have HB := n5_; clear n0_ n1_ n2_ n3_ n4_ n5_; (try clear hb)) | ((with_reducible refine gate_callee (f := 42) rfl ?_); refine goesL_ (some 124) rfl rfl Try.func42 (by kernel_rfl) rfl #[.slice Ao52 t597.length co52] rfl aq ?_; (with_reducible refine (spec_GroundOf.calls k _ _ t597 t622 t623 t624 _ ?side1 ?side2 A18.out).mono ?_); (case side1 => exact cq (Kd.R_reads' HO599.out).2.2); (case side2 => exact (Kd.R_reads' HO599.out).2.1); rintro e w75 ⟨rfl, hb⟩; refine ⟨_, rfl, ?_⟩; have n0_ := ak (Kd.R_below (rq HO599) hb); have n1_ := ak (blk_below (g := gb610) (o := .cells #[.int .i64 t605, .int .i64 t606] 49 (0, 0)) (uq BK610) hb); have n2_ := ak (blk_below (g := gb611) (o := .cells #[.int .i64 t607, .int .i64 t608] 49 (0, 0)) (uq BK611) hb); have n3_ := ak (blk_below (g := gb617) (o := .cells #[.int .i64 t612, .int .i64 t613] 49 (0, 0)) (uq BK617) hb); have n4_ := ak (blk_below (g := gb618) (o := .cells #[.int .i64 t614, .int .i64 t615] 49 (0, 0)) (uq BK618) hb); have n5_ := ak (below_step bs hb); clear HO599; clear BK610; clear BK611; clear BK617; clear BK618; clear HB; have HO599 := n0_; have BK610 := n1_; have BK611 := n2_; have BK617 := n3_; have BK618 := n4_; have HB := n5_; clear n0_ n1_ n2_ n3_ n4_ n5_; (try clear hb)) | ((with_reducible refine gate_callee (f := 43) rfl ?_); refine goesL_ (some 148) rfl rfl Try.func43 (by kernel_rfl) rfl #[.slice Ao52 t597.length co52] rfl aq ?_; (with_reducible refine (impl_MirrorBody.calls k _ _ t597 t625 t626 _ ?side1 ?side2 A23.out).mono ?_); (case side1 => exact cq (Kd.R_reads' HO599.out).2.2); (case side2 => exact (Kd.R_reads' HO599.out).2.1); rintro e w76 ⟨v627, rfl, ho0, hb⟩; refine ⟨_, rfl, ?_⟩; have n0_ := ak (Kd.R_elder' (rq HO599) (Kd.R_base ho0) hb); have n1_ := ak (Kd.R_lower (Kd.R_newB (Kd.R_newB (Kd.R_newB (Kd.R_newB (Kd.R_new' ho0 (Kd.R_lt (rq HO599))) (g := gb610) (o := .cells #[.int .i64 t605, .int .i64 t606] 49 (0, 0)) (uq BK610)) (g := gb611) (o := .cells #[.int .i64 t607, .int .i64 t608] 49 (0, 0)) (uq BK611)) (g := gb617) (o := .cells #[.int .i64 t612, .int .i64 t613] 49 (0, 0)) (uq BK617)) (g := gb618) (o := .cells #[.int .i64 t614, .int .i64 t615] 49 (0, 0)) (uq BK618)) (below_size bs)); have n2_ := ak (blk_below (g := gb610) (o := .cells #[.int .i64 t605, .int .i64 t606] 49 (0, 0)) (uq BK610) hb); have n3_ := ak (blk_below (g := gb611) (o := .cells #[.int .i64 t607, .int .i64 t608] 49 (0, 0)) (uq BK611) hb); have n4_ := ak (blk_below (g := gb617) (o := .cells #[.int .i64 t612, .int .i64 t613] 49 (0, 0)) (uq BK617) hb); have n5_ := ak (blk_below (g := gb618) (o := .cells #[.int .i64 t614, .int .i64 t615] 49 (0, 0)) (uq BK618) hb); have n6_ := ak (below_step bs hb); clear HO599; clear BK610; clear BK611; clear BK617; clear BK618; clear HB; have HO599 := n0_; have HO628 := n1_; have BK610 := n2_; have BK611 := n3_; have BK617 := n4_; have BK618 := n5_; have HB := n6_; clear n0_ n1_ n2_ n3_ n4_ n5_ n6_; (try clear hb); (try clear ho0)) | ((with_reducible refine gate_callee (f := 44) rfl ?_); refine goesL_ (some 153) rfl rfl Try.func44 (by kernel_rfl) rfl #[.slice Ao52 t597.length co52] rfl aq ?_; (with_reducible refine (spec_MirrorBody.calls k _ _ t597 t629 t630 _ ?side1 ?side2 A24.out).mono ?_); (case side1 => exact cq (Kd.R_reads' HO599.out).2.2); (case side2 => exact (Kd.R_reads' HO599.out).2.1); rintro e w77 ⟨v631, rfl, ho0, hb⟩; refine ⟨_, rfl, ?_⟩; have n0_ := ak (Kd.R_elder' (rq HO599) (Kd.R_base ho0) hb); have n1_ := ak (Kd.R_elder' (rq HO628) (Kd.R_base ho0) hb); have n2_ := ak (Kd.R_lower (Kd.R_newB (Kd.R_newB (Kd.R_newB (Kd.R_newB (Kd.R_new' (Kd.R_new' ho0 (Kd.R_lt (rq HO599))) (Kd.R_lt (rq HO628))) (g := gb610) (o := .cells #[.int .i64 t605, .int .i64 t606] 49 (0, 0)) (uq BK610)) (g := gb611) (o := .cells #[.int .i64 t607, .int .i64 t608] 49 (0, 0)) (uq BK611)) (g := gb617) (o := .cells #[.int .i64 t612, .int .i64 t613] 49 (0, 0)) (uq BK617)) (g := gb618) (o := .cells #[.int .i64 t614, .int .i64 t615] 49 (0, 0)) (uq BK618)) (below_size bs)); have n3_ := ak (blk_below (g := gb610) (o := .cells #[.int .i64 t605, .int .i64 t606] 49 (0, 0)) (uq BK610) hb); have n4_ := ak (blk_below (g := gb611) (o := .cells #[.int .i64 t607, .int .i64 t608] 49 (0, 0)) (uq BK611) hb); have n5_ := ak (blk_below (g := gb617) (o := .cells #[.int .i64 t612, .int .i64 t613] 49 (0, 0)) (uq BK617) hb); have n6_ := ak (blk_below (g := gb618) (o := .cells #[.int .i64 t614, .int .i64 t615] 49 (0, 0)) (uq BK618) hb); have n7_ := ak (below_step bs hb); clear HO599; clear HO628; clear BK610; clear BK611; clear BK617; clear BK618; clear HB; have HO599 := n0_; have HO628 := n1_; have HO632 := n2_; have BK610 := n3_; have BK611 := n4_; have BK617 := n5_; have BK618 := n6_; have HB := n7_; clear n0_ n1_ n2_ n3_ n4_ n5_ n6_ n7_; (try clear hb); (try clear ho0); obtain ⟨Ao78, co78, eo78⟩ := Kd.R_slice HO628.out; subst eo78; obtain ⟨Ao79, co79, eo79⟩ := Kd.R_slice HO632.out; subst eo79) | (go_at_call 33; (with_reducible refine (laws_rCells.calls k _ _ t625 _ _ t629 true _ ?side1 ?side2 ?side3 ?side4 A27.out).mono ?_); (case side1 => exact cq (Kd.R_reads' HO628.out).2.2); (case side2 => exact (Kd.R_reads' HO628.out).2.1); (case side3 => exact cq (Kd.R_reads' HO632.out).2.2); (case side4 => exact (Kd.R_reads' HO632.out).2.1); rintro e w' ⟨rfl, ⟨nd, rfl⟩⟩) | ((with_reducible refine gate_callee (f := 24) rfl ?_); refine goesL_ (some 172) rfl rfl Try.func24 (by kernel_rfl) rfl #[.slice Ao52 t597.length co52] rfl aq ?_; (with_reducible refine (impl_TumbleBody.calls k _ _ t597 t634 t635 t636 _ ?side1 ?side2 A29.out).mono ?_); (case side1 => exact cq (Kd.R_reads' HO599.out).2.2); (case side2 => exact (Kd.R_reads' HO599.out).2.1); rintro e w80 ⟨v637, rfl, ho0, hb⟩; refine ⟨_, rfl, ?_⟩; have n0_ := ak (Kd.R_elder' (rq HO599) (Kd.R_base ho0) hb); have n1_ := ak (Kd.R_elder' (rq HO628) (Kd.R_base ho0) hb); have n2_ := ak (Kd.R_elder' (rq HO632) (Kd.R_base ho0) hb); have n3_ := ak (Kd.R_lower (Kd.R_newB (Kd.R_newB (Kd.R_newB (Kd.R_newB (Kd.R_new' (Kd.R_new' (Kd.R_new' ho0 (Kd.R_lt (rq HO599))) (Kd.R_lt (rq HO628))) (Kd.R_lt (rq HO632))) (g := gb610) (o := .cells #[.int .i64 t605, .int .i64 t606] 49 (0, 0)) (uq BK610)) (g := gb611) (o := .cells #[.int .i64 t607, .int .i64 t608] 49 (0, 0)) (uq BK611)) (g := gb617) (o := .cells #[.int .i64 t612, .int .i64 t613] 49 (0, 0)) (uq BK617)) (g := gb618) (o := .cells #[.int .i64 t614, .int .i64 t615] 49 (0, 0)) (uq BK618)) (below_size bs)); have n4_ := ak (blk_below (g := gb610) (o := .cells #[.int .i64 t605, .int .i64 t606] 49 (0, 0)) (uq BK610) hb); have n5_ := ak (blk_below (g := gb611) (o := .cells #[.int .i64 t607, .int .i64 t608] 49 (0, 0)) (uq BK611) hb); have n6_ := ak (blk_below (g := gb617) (o := .cells #[.int .i64 t612, .int .i64 t613] 49 (0, 0)) (uq BK617) hb); have n7_ := ak (blk_below (g := gb618) (o := .cells #[.int .i64 t614, .int .i64 t615] 49 (0, 0)) (uq BK618) hb); have n8_ := ak (below_step bs hb); clear HO599; clear HO628; clear HO632; clear BK610; clear BK611; clear BK617; clear BK618; clear HB; have HO599 := n0_; have HO628 := n1_; have HO632 := n2_; have HO638 := n3_; have BK610 := n4_; have BK611 := n5_; have BK617 := n6_; have BK618 := n7_; have HB := n8_; clear n0_ n1_ n2_ n3_ n4_ n5_ n6_ n7_ n8_; (try clear hb); (try clear ho0)) | ((with_reducible refine gate_callee (f := 23) rfl ?_); refine goesL_ (some 178) rfl rfl Try.func23 (by kernel_rfl) rfl #[.slice Ao52 t597.length co52] rfl aq ?_; (with_reducible refine (spec_TumbleBody.calls k _ _ t597 t639 t640 t641 _ ?side1 ?side2 A30.out).mono ?_); (case side1 => exact cq (Kd.R_reads' HO599.out).2.2); (case side2 => exact (Kd.R_reads' HO599.out).2.1); rintro e w81 ⟨v642, rfl, ho0, hb⟩; refine ⟨_, rfl, ?_⟩; have n0_ := ak (Kd.R_elder' (rq HO599) (Kd.R_base ho0) hb); have n1_ := ak (Kd.R_elder' (rq HO628) (Kd.R_base ho0) hb); have n2_ := ak (Kd.R_elder' (rq HO632) (Kd.R_base ho0) hb); have n3_ := ak (Kd.R_elder' (rq HO638) (Kd.R_base ho0) hb); have n4_ := ak (Kd.R_lower (Kd.R_newB (Kd.R_newB (Kd.R_newB (Kd.R_newB (Kd.R_new' (Kd.R_new' (Kd.R_new' (Kd.R_new' ho0 (Kd.R_lt (rq HO599))) (Kd.R_lt (rq HO628))) (Kd.R_lt (rq HO632))) (Kd.R_lt (rq HO638))) (g := gb610) (o := .cells #[.int .i64 t605, .int .i64 t606] 49 (0, 0)) (uq BK610)) (g := gb611) (o := .cells #[.int .i64 t607, .int .i64 t608] 49 (0, 0)) (uq BK611)) (g := gb617) (o := .cells #[.int .i64 t612, .int .i64 t613] 49 (0, 0)) (uq BK617)) (g := gb618) (o := .cells #[.int .i64 t614, .int .i64 t615] 49 (0, 0)) (uq BK618)) (below_size bs)); have n5_ := ak (blk_below (g := gb610) (o := .cells #[.int .i64 t605, .int .i64 t606] 49 (0, 0)) (uq BK610) hb); have n6_ := ak (blk_below (g := gb611) (o := .cells #[.int .i64 t607, .int .i64 t608] 49 (0, 0)) (uq BK611) hb); have n7_ := ak (blk_below (g := gb617) (o := .cells #[.int .i64 t612, .int .i64 t613] 49 (0, 0)) (uq BK617) hb); have n8_ := ak (blk_below (g := gb618) (o := .cells #[.int .i64 t614, .int .i64 t615] 49 (0, 0)) (uq BK618) hb); have n9_ := ak (below_step bs hb); clear HO599; clear HO628; clear HO632; clear HO638; clear BK610; clear BK611; clear BK617; clear BK618; clear HB; have HO599 := n0_; have HO628 := n1_; have HO632 := n2_; have HO638 := n3_; have HO643 := n4_; have BK610 := n5_; have BK611 := n6_; have BK617 := n7_; have BK618 := n8_; have HB := n9_; clear n0_ n1_ n2_ n3_ n4_ n5_ n6_ n7_ n8_ n9_; (try clear hb); (try clear ho0); obtain ⟨Ao82, co82, eo82⟩ := Kd.R_slice HO638.out; subst eo82; obtain ⟨Ao83, co83, eo83⟩ := Kd.R_slice HO643.out; subst eo83) | (go_at_call 33; (with_reducible refine (laws_rCells.calls k _ _ t634 _ _ t639 true _ ?side1 ?side2 ?side3 ?side4 A33.out).mono ?_); (case side1 => exact cq (Kd.R_reads' HO638.out).2.2); (case side2 => exact (Kd.R_reads' HO638.out).2.1); (case side3 => exact cq (Kd.R_reads' HO643.out).2.2); (case side4 => exact (Kd.R_reads' HO643.out).2.1); rintro e w' ⟨rfl, ⟨nd, rfl⟩⟩) | ((with_reducible refine gate_callee (f := 45) rfl ?_); refine goesL_ (some 198) rfl rfl Try.func45 (by kernel_rfl) rfl #[.slice Ao52 t597.length co52] rfl aq ?_; (with_reducible refine (impl_StandingTurns.calls k (fun k_ => some k_ = (.slice Ao52 t597.length co52 : Value).ownBlock) _ _ t597 t645 t648 _ ?side1 A35.out).mono ?_); (case side1 => exact Kd.R_V (Kd.R_tight rfl (HO599.out))); rintro e w84 ⟨v646, rfl, ho0, hb⟩; refine ⟨_, rfl, ?_⟩; have n0_ := ak (Kd.R_below (rq HO599) hb); have n1_ := ak (Kd.R_below (rq HO628) hb); have n2_ := ak (Kd.R_below (rq HO632) hb); have n3_ := ak (Kd.R_below (rq HO638) hb); have n4_ := ak (Kd.R_below (rq HO643) hb); have n5_ := ak (Kd.R_lower (Kd.R_mono (ok' := fun k_ => True) ho0 (fun _ hk_ => trivial)) (below_size bs)); have n6_ := ak (blk_below (g := gb610) (o := .cells #[.int .i64 t605, .int .i64 t606] 49 (0, 0)) (uq BK610) hb); have n7_ := ak (blk_below (g := gb611) (o := .cells #[.int .i64 t607, .int .i64 t608] 49 (0, 0)) (uq BK611) hb); have n8_ := ak (blk_below (g := gb617) (o := .cells #[.int .i64 t612, .int .i64 t613] 49 (0, 0)) (uq BK617) hb); have n9_ := ak (blk_below (g := gb618) (o := .cells #[.int .i64 t614, .int .i64 t615] 49 (0, 0)) (uq BK618) hb); have n10_ := ak (below_step bs hb); clear HO599; clear HO628; clear HO632; clear HO638; clear HO643; clear BK610; clear BK611; clear BK617; clear BK618; clear HB; have HO599 := n0_; have HO628 := n1_; have HO632 := n2_; have HO638 := n3_; have HO643 := n4_; have HO647 := n5_; have BK610 := n6_; have BK611 := n7_; have BK617 := n8_; have BK618 := n9_; have HB := n10_; clear n0_ n1_ n2_ n3_ n4_ n5_ n6_ n7_ n8_ n9_ n10_; (try clear hb); (try clear ho0)) | ((with_reducible refine gate_callee (f := 46) rfl ?_); refine goesL_ (some 203) rfl rfl Try.func46 (by kernel_rfl) rfl #[.slice Ao52 t597.length co52] rfl aq ?_; (with_reducible refine (spec_StandingTurns.calls k (fun k_ => some k_ = (.slice Ao52 t597.length co52 : Value).ownBlock) _ _ t597 t649 t652 _ ?side1 A36.out).mono ?_); (case side1 => exact Kd.R_V (Kd.R_tight rfl (Kd.R_apart' (HO599.out) (Kd.R_typed HO647.out) (by decide)))); rintro e w85 ⟨v650, rfl, ho0, hb⟩; refine ⟨_, rfl, ?_⟩; have n0_ := ak (Kd.R_below (rq HO599) hb); have n1_ := ak (Kd.R_below (rq HO628) hb); have n2_ := ak (Kd.R_below (rq HO632) hb); have n3_ := ak (Kd.R_below (rq HO638) hb); have n4_ := ak (Kd.R_below (rq HO643) hb); have n5_ := ak (Kd.R_elder' (rq HO647) (Kd.R_base ho0) hb); have n6_ := ak (Kd.R_lower (Kd.R_new' (Kd.R_mono (ok' := fun k_ => True) ho0 (fun _ hk_ => trivial)) (Kd.R_lt (rq HO647))) (below_size bs)); have n7_ := ak (blk_below (g := gb610) (o := .cells #[.int .i64 t605, .int .i64 t606] 49 (0, 0)) (uq BK610) hb); have n8_ := ak (blk_below (g := gb611) (o := .cells #[.int .i64 t607, .int .i64 t608] 49 (0, 0)) (uq BK611) hb); have n9_ := ak (blk_below (g := gb617) (o := .cells #[.int .i64 t612, .int .i64 t613] 49 (0, 0)) (uq BK617) hb); have n10_ := ak (blk_below (g := gb618) (o := .cells #[.int .i64 t614, .int .i64 t615] 49 (0, 0)) (uq BK618) hb); have n11_ := ak (below_step bs hb); clear HO599; clear HO628; clear HO632; clear HO638; clear HO643; clear HO647; clear BK610; clear BK611; clear BK617; clear BK618; clear HB; have HO599 := n0_; have HO628 := n1_; have HO632 := n2_; have HO638 := n3_; have HO643 := n4_; have HO647 := n5_; have HO651 := n6_; have BK610 := n7_; have BK611 := n8_; have BK617 := n9_; have BK618 := n10_; have HB := n11_; clear n0_ n1_ n2_ n3_ n4_ n5_ n6_ n7_ n8_ n9_ n10_ n11_; (try clear hb); (try clear ho0); obtain ⟨Ao86, co86, eo86⟩ := Kd.R_slice HO647.out; subst eo86; obtain ⟨Ao87, co87, eo87⟩ := Kd.R_slice HO651.out; subst eo87) | (go_at_call 47; (with_reducible refine (laws_rInts.calls k _ _ t645 _ _ t649 true _ ?side1 ?side2 ?side3 ?side4 A39.out).mono ?_); (case side1 => exact cq (Kd.R_reads' HO647.out).2.2); (case side2 => exact (Kd.R_reads' HO647.out).2.1); (case side3 => exact cq (Kd.R_reads' HO651.out).2.2); (case side4 => exact (Kd.R_reads' HO651.out).2.1); rintro e w' ⟨rfl, ⟨nd, rfl⟩⟩) | ((with_reducible refine gate_callee (f := 48) rfl ?_); refine goesL_ (some 222) rfl rfl Try.func48 (by kernel_rfl) rfl #[.slice A0 l0.length c0] rfl aq ?_; (with_reducible refine (spec_DrawTurnBody.calls k _ _ l0 t654 t655 _ ?side1 ?side2 A41.out).mono ?_); (case side1 => exact cq (Kd.C_below HR0.out bs)); (case side2 => exact HC0.out); rintro e w88 ⟨v656, rfl, ho0, hb⟩; refine ⟨_, rfl, ?_⟩; have n0_ := ak (Kd.R_elder' (rq HO599) (Kd.R_base ho0) hb); have n1_ := ak (Kd.R_elder' (rq HO628) (Kd.R_base ho0) hb); have n2_ := ak (Kd.R_elder' (rq HO632) (Kd.R_base ho0) hb); have n3_ := ak (Kd.R_elder' (rq HO638) (Kd.R_base ho0) hb); have n4_ := ak (Kd.R_elder' (rq HO643) (Kd.R_base ho0) hb); have n5_ := ak (Kd.R_below (rq HO647) hb); have n6_ := ak (Kd.R_below (rq HO651) hb); have n7_ := ak (Kd.R_lower (Kd.R_newB (Kd.R_newB (Kd.R_newB (Kd.R_newB (Kd.R_new' (Kd.R_new' (Kd.R_new' (Kd.R_new' (Kd.R_new' ho0 (Kd.R_lt (rq HO599))) (Kd.R_lt (rq HO628))) (Kd.R_lt (rq HO632))) (Kd.R_lt (rq HO638))) (Kd.R_lt (rq HO643))) (g := gb610) (o := .cells #[.int .i64 t605, .int .i64 t606] 49 (0, 0)) (uq BK610)) (g := gb611) (o := .cells #[.int .i64 t607, .int .i64 t608] 49 (0, 0)) (uq BK611)) (g := gb617) (o := .cells #[.int .i64 t612, .int .i64 t613] 49 (0, 0)) (uq BK617)) (g := gb618) (o := .cells #[.int .i64 t614, .int .i64 t615] 49 (0, 0)) (uq BK618)) (below_size bs)); have n8_ := ak (blk_below (g := gb610) (o := .cells #[.int .i64 t605, .int .i64 t606] 49 (0, 0)) (uq BK610) hb); have n9_ := ak (blk_below (g := gb611) (o := .cells #[.int .i64 t607, .int .i64 t608] 49 (0, 0)) (uq BK611) hb); have n10_ := ak (blk_below (g := gb617) (o := .cells #[.int .i64 t612, .int .i64 t613] 49 (0, 0)) (uq BK617) hb); have n11_ := ak (blk_below (g := gb618) (o := .cells #[.int .i64 t614, .int .i64 t615] 49 (0, 0)) (uq BK618) hb); have n12_ := ak (below_step bs hb); clear HO599; clear HO628; clear HO632; clear HO638; clear HO643; clear HO647; clear HO651; clear BK610; clear BK611; clear BK617; clear BK618; clear HB; have HO599 := n0_; have HO628 := n1_; have HO632 := n2_; have HO638 := n3_; have HO643 := n4_; have HO647 := n5_; have HO651 := n6_; have HO657 := n7_; have BK610 := n8_; have BK611 := n9_; have BK617 := n10_; have BK618 := n11_; have HB := n12_; clear n0_ n1_ n2_ n3_ n4_ n5_ n6_ n7_ n8_ n9_ n10_ n11_ n12_; (try clear hb); (try clear ho0); obtain ⟨Ao89, co89, eo89⟩ := Kd.R_slice HO657.out; subst eo89) | ((with_reducible refine gate_callee (f := 49) rfl ?_); refine goesL_ (some 228) rfl rfl Try.func49 (by kernel_rfl) rfl #[.slice Ao89 t654.length co89, .int .i64 t655] rfl aq ?_; (with_reducible refine (impl_TurnBody.calls k _ _ t654 t655 t658 t659 _ ?side1 ?side2 A42.out).mono ?_); (case side1 => exact cq (Kd.R_reads' HO657.out).2.2); (case side2 => exact (Kd.R_reads' HO657.out).2.1); rintro e w90 ⟨v660, rfl, ho0, hb⟩; refine ⟨_, rfl, ?_⟩; have n0_ := ak (Kd.R_elder' (rq HO599) (Kd.R_base ho0) hb); have n1_ := ak (Kd.R_elder' (rq HO628) (Kd.R_base ho0) hb); have n2_ := ak (Kd.R_elder' (rq HO632) (Kd.R_base ho0) hb); have n3_ := ak (Kd.R_elder' (rq HO638) (Kd.R_base ho0) hb); have n4_ := ak (Kd.R_elder' (rq HO643) (Kd.R_base ho0) hb); have n5_ := ak (Kd.R_below (rq HO647) hb); have n6_ := ak (Kd.R_below (rq HO651) hb); have n7_ := ak (Kd.R_elder' (rq HO657) (Kd.R_base ho0) hb); have n8_ := ak (Kd.R_lower (Kd.R_newB (Kd.R_newB (Kd.R_newB (Kd.R_newB (Kd.R_new' (Kd.R_new' (Kd.R_new' (Kd.R_new' (Kd.R_new' (Kd.R_new' ho0 (Kd.R_lt (rq HO599))) (Kd.R_lt (rq HO628))) (Kd.R_lt (rq HO632))) (Kd.R_lt (rq HO638))) (Kd.R_lt (rq HO643))) (Kd.R_lt (rq HO657))) (g := gb610) (o := .cells #[.int .i64 t605, .int .i64 t606] 49 (0, 0)) (uq BK610)) (g := gb611) (o := .cells #[.int .i64 t607, .int .i64 t608] 49 (0, 0)) (uq BK611)) (g := gb617) (o := .cells #[.int .i64 t612, .int .i64 t613] 49 (0, 0)) (uq BK617)) (g := gb618) (o := .cells #[.int .i64 t614, .int .i64 t615] 49 (0, 0)) (uq BK618)) (below_size bs)); have n9_ := ak (blk_below (g := gb610) (o := .cells #[.int .i64 t605, .int .i64 t606] 49 (0, 0)) (uq BK610) hb); have n10_ := ak (blk_below (g := gb611) (o := .cells #[.int .i64 t607, .int .i64 t608] 49 (0, 0)) (uq BK611) hb); have n11_ := ak (blk_below (g := gb617) (o := .cells #[.int .i64 t612, .int .i64 t613] 49 (0, 0)) (uq BK617) hb); have n12_ := ak (blk_below (g := gb618) (o := .cells #[.int .i64 t614, .int .i64 t615] 49 (0, 0)) (uq BK618) hb); have n13_ := ak (below_step bs hb); clear HO599; clear HO628; clear HO632; clear HO638; clear HO643; clear HO647; clear HO651; clear HO657; clear BK610; clear BK611; clear BK617; clear BK618; clear HB; have HO599 := n0_; have HO628 := n1_; have HO632 := n2_; have HO638 := n3_; have HO643 := n4_; have HO647 := n5_; have HO651 := n6_; have HO657 := n7_; have HO661 := n8_; have BK610 := n9_; have BK611 := n10_; have BK617 := n11_; have BK618 := n12_; have HB := n13_; clear n0_ n1_ n2_ n3_ n4_ n5_ n6_ n7_ n8_ n9_ n10_ n11_ n12_ n13_; (try clear hb); (try clear ho0)) | ((with_reducible refine gate_callee (f := 50) rfl ?_); refine goesL_ (some 234) rfl rfl Try.func50 (by kernel_rfl) rfl #[.slice Ao89 t654.length co89, .int .i64 t655] rfl aq ?_; (with_reducible refine (spec_TurnBody.calls k _ _ t654 t655 t662 t663 _ ?side1 ?side2 A43.out).mono ?_); (case side1 => exact cq (Kd.R_reads' HO657.out).2.2); (case side2 => exact (Kd.R_reads' HO657.out).2.1); rintro e w91 ⟨v664, rfl, ho0, hb⟩; refine ⟨_, rfl, ?_⟩; have n0_ := ak (Kd.R_elder' (rq HO599) (Kd.R_base ho0) hb); have n1_ := ak (Kd.R_elder' (rq HO628) (Kd.R_base ho0) hb); have n2_ := ak (Kd.R_elder' (rq HO632) (Kd.R_base ho0) hb); have n3_ := ak (Kd.R_elder' (rq HO638) (Kd.R_base ho0) hb); have n4_ := ak (Kd.R_elder' (rq HO643) (Kd.R_base ho0) hb); have n5_ := ak (Kd.R_below (rq HO647) hb); have n6_ := ak (Kd.R_below (rq HO651) hb); have n7_ := ak (Kd.R_elder' (rq HO657) (Kd.R_base ho0) hb); have n8_ := ak (Kd.R_elder' (rq HO661) (Kd.R_base ho0) hb); have n9_ := ak (Kd.R_lower (Kd.R_newB (Kd.R_newB (Kd.R_newB (Kd.R_newB (Kd.R_new' (Kd.R_new' (Kd.R_new' (Kd.R_new' (Kd.R_new' (Kd.R_new' (Kd.R_new' ho0 (Kd.R_lt (rq HO599))) (Kd.R_lt (rq HO628))) (Kd.R_lt (rq HO632))) (Kd.R_lt (rq HO638))) (Kd.R_lt (rq HO643))) (Kd.R_lt (rq HO657))) (Kd.R_lt (rq HO661))) (g := gb610) (o := .cells #[.int .i64 t605, .int .i64 t606] 49 (0, 0)) (uq BK610)) (g := gb611) (o := .cells #[.int .i64 t607, .int .i64 t608] 49 (0, 0)) (uq BK611)) (g := gb617) (o := .cells #[.int .i64 t612, .int .i64 t613] 49 (0, 0)) (uq BK617)) (g := gb618) (o := .cells #[.int .i64 t614, .int .i64 t615] 49 (0, 0)) (uq BK618)) (below_size bs)); have n10_ := ak (blk_below (g := gb610) (o := .cells #[.int .i64 t605, .int .i64 t606] 49 (0, 0)) (uq BK610) hb); have n11_ := ak (blk_below (g := gb611) (o := .cells #[.int .i64 t607, .int .i64 t608] 49 (0, 0)) (uq BK611) hb); have n12_ := ak (blk_below (g := gb617) (o := .cells #[.int .i64 t612, .int .i64 t613] 49 (0, 0)) (uq BK617) hb); have n13_ := ak (blk_below (g := gb618) (o := .cells #[.int .i64 t614, .int .i64 t615] 49 (0, 0)) (uq BK618) hb); have n14_ := ak (below_step bs hb); clear HO599; clear HO628; clear HO632; clear HO638; clear HO643; clear HO647; clear HO651; clear HO657; clear HO661; clear BK610; clear BK611; clear BK617; clear BK618; clear HB; have HO599 := n0_; have HO628 := n1_; have HO632 := n2_; have HO638 := n3_; have HO643 := n4_; have HO647 := n5_; have HO651 := n6_; have HO657 := n7_; have HO661 := n8_; have HO665 := n9_; have BK610 := n10_; have BK611 := n11_; have BK617 := n12_; have BK618 := n13_; have HB := n14_; clear n0_ n1_ n2_ n3_ n4_ n5_ n6_ n7_ n8_ n9_ n10_ n11_ n12_ n13_ n14_; (try clear hb); (try clear ho0); obtain ⟨Ao92, co92, eo92⟩ := Kd.R_slice HO661.out; subst eo92; obtain ⟨Ao93, co93, eo93⟩ := Kd.R_slice HO665.out; subst eo93) | (go_at_call 33; (with_reducible refine (laws_rCells.calls k _ _ t658 _ _ t662 true _ ?side1 ?side2 ?side3 ?side4 A45.out).mono ?_); (case side1 => exact cq (Kd.R_reads' HO661.out).2.2); (case side2 => exact (Kd.R_reads' HO661.out).2.1); (case side3 => exact cq (Kd.R_reads' HO665.out).2.2); (case side4 => exact (Kd.R_reads' HO665.out).2.1); rintro e w' ⟨rfl, ⟨nd, rfl⟩⟩) | ((with_reducible refine gate_callee (f := 51) rfl ?_); refine goesL_ (some 247) rfl rfl Try.func51 (by kernel_rfl) rfl #[.slice A0 l0.length c0] rfl aq ?_; (with_reducible refine (spec_DrawPutDown.calls k _ _ l0 t667 _ ?side1 ?side2 A47.out).mono ?_); (case side1 => exact cq (Kd.C_below HR0.out bs)); (case side2 => exact HC0.out); rintro e w94 ⟨v668, rfl, ho0, hb⟩; refine ⟨_, rfl, ?_⟩; have n0_ := ak (Kd.R_elder' (rq HO599) (Kd.R_base ho0) hb); have n1_ := ak (Kd.R_elder' (rq HO628) (Kd.R_base ho0) hb); have n2_ := ak (Kd.R_elder' (rq HO632) (Kd.R_base ho0) hb); have n3_ := ak (Kd.R_elder' (rq HO638) (Kd.R_base ho0) hb); have n4_ := ak (Kd.R_elder' (rq HO643) (Kd.R_base ho0) hb); have n5_ := ak (Kd.R_below (rq HO647) hb); have n6_ := ak (Kd.R_below (rq HO651) hb); have n7_ := ak (Kd.R_elder' (rq HO657) (Kd.R_base ho0) hb); have n8_ := ak (Kd.R_elder' (rq HO661) (Kd.R_base ho0) hb); have n9_ := ak (Kd.R_elder' (rq HO665) (Kd.R_base ho0) hb); have n10_ := ak (Kd.R_lower (Kd.R_newB (Kd.R_newB (Kd.R_newB (Kd.R_newB (Kd.R_new' (Kd.R_new' (Kd.R_new' (Kd.R_new' (Kd.R_new' (Kd.R_new' (Kd.R_new' (Kd.R_new' ho0 (Kd.R_lt (rq HO599))) (Kd.R_lt (rq HO628))) (Kd.R_lt (rq HO632))) (Kd.R_lt (rq HO638))) (Kd.R_lt (rq HO643))) (Kd.R_lt (rq HO657))) (Kd.R_lt (rq HO661))) (Kd.R_lt (rq HO665))) (g := gb610) (o := .cells #[.int .i64 t605, .int .i64 t606] 49 (0, 0)) (uq BK610)) (g := gb611) (o := .cells #[.int .i64 t607, .int .i64 t608] 49 (0, 0)) (uq BK611)) (g := gb617) (o := .cells #[.int .i64 t612, .int .i64 t613] 49 (0, 0)) (uq BK617)) (g := gb618) (o := .cells #[.int .i64 t614, .int .i64 t615] 49 (0, 0)) (uq BK618)) (below_size bs)); have n11_ := ak (blk_below (g := gb610) (o := .cells #[.int .i64 t605, .int .i64 t606] 49 (0, 0)) (uq BK610) hb); have n12_ := ak (blk_below (g := gb611) (o := .cells #[.int .i64 t607, .int .i64 t608] 49 (0, 0)) (uq BK611) hb); have n13_ := ak (blk_below (g := gb617) (o := .cells #[.int .i64 t612, .int .i64 t613] 49 (0, 0)) (uq BK617) hb); have n14_ := ak (blk_below (g := gb618) (o := .cells #[.int .i64 t614, .int .i64 t615] 49 (0, 0)) (uq BK618) hb); have n15_ := ak (below_step bs hb); clear HO599; clear HO628; clear HO632; clear HO638; clear HO643; clear HO647; clear HO651; clear HO657; clear HO661; clear HO665; clear BK610; clear BK611; clear BK617; clear BK618; clear HB; have HO599 := n0_; have HO628 := n1_; have HO632 := n2_; have HO638 := n3_; have HO643 := n4_; have HO647 := n5_; have HO651 := n6_; have HO657 := n7_; have HO661 := n8_; have HO665 := n9_; have HO669 := n10_; have BK610 := n11_; have BK611 := n12_; have BK617 := n13_; have BK618 := n14_; have HB := n15_; clear n0_ n1_ n2_ n3_ n4_ n5_ n6_ n7_ n8_ n9_ n10_ n11_ n12_ n13_ n14_ n15_; (try clear hb); (try clear ho0); obtain ⟨Ao95, co95, eo95⟩ := Kd.R_slice HO669.out; subst eo95) | ((with_reducible refine gate_callee (f := 52) rfl ?_); refine goesL_ (some 250) rfl rfl Try.func52 (by kernel_rfl) rfl #[.slice Ao95 t667.length co95] rfl aq ?_; (with_reducible refine (impl_PutDown.calls k _ _ t667 t670 t671 _ ?side1 ?side2 A48.out).mono ?_); (case side1 => exact cq (Kd.R_reads' HO669.out).2.2); (case side2 => exact (Kd.R_reads' HO669.out).2.1); rintro e w96 ⟨v672, rfl, ho0, hb⟩; refine ⟨_, rfl, ?_⟩; have n0_ := ak (Kd.R_elder' (rq HO599) (Kd.R_base ho0) hb); have n1_ := ak (Kd.R_elder' (rq HO628) (Kd.R_base ho0) hb); have n2_ := ak (Kd.R_elder' (rq HO632) (Kd.R_base ho0) hb); have n3_ := ak (Kd.R_elder' (rq HO638) (Kd.R_base ho0) hb); have n4_ := ak (Kd.R_elder' (rq HO643) (Kd.R_base ho0) hb); have n5_ := ak (Kd.R_below (rq HO647) hb); have n6_ := ak (Kd.R_below (rq HO651) hb); have n7_ := ak (Kd.R_elder' (rq HO657) (Kd.R_base ho0) hb); have n8_ := ak (Kd.R_elder' (rq HO661) (Kd.R_base ho0) hb); have n9_ := ak (Kd.R_elder' (rq HO665) (Kd.R_base ho0) hb); have n10_ := ak (Kd.R_elder' (rq HO669) (Kd.R_base ho0) hb); have n11_ := ak (Kd.R_lower (Kd.R_newB (Kd.R_newB (Kd.R_newB (Kd.R_newB (Kd.R_new' (Kd.R_new' (Kd.R_new' (Kd.R_new' (Kd.R_new' (Kd.R_new' (Kd.R_new' (Kd.R_new' (Kd.R_new' ho0 (Kd.R_lt (rq HO599))) (Kd.R_lt (rq HO628))) (Kd.R_lt (rq HO632))) (Kd.R_lt (rq HO638))) (Kd.R_lt (rq HO643))) (Kd.R_lt (rq HO657))) (Kd.R_lt (rq HO661))) (Kd.R_lt (rq HO665))) (Kd.R_lt (rq HO669))) (g := gb610) (o := .cells #[.int .i64 t605, .int .i64 t606] 49 (0, 0)) (uq BK610)) (g := gb611) (o := .cells #[.int .i64 t607, .int .i64 t608] 49 (0, 0)) (uq BK611)) (g := gb617) (o := .cells #[.int .i64 t612, .int .i64 t613] 49 (0, 0)) (uq BK617)) (g := gb618) (o := .cells #[.int .i64 t614, .int .i64 t615] 49 (0, 0)) (uq BK618)) (below_size bs)); have n12_ := ak (blk_below (g := gb610) (o := .cells #[.int .i64 t605, .int .i64 t606] 49 (0, 0)) (uq BK610) hb); have n13_ := ak (blk_below (g := gb611) (o := .cells #[.int .i64 t607, .int .i64 t608] 49 (0, 0)) (uq BK611) hb); have n14_ := ak (blk_below (g := gb617) (o := .cells #[.int .i64 t612, .int .i64 t613] 49 (0, 0)) (uq BK617) hb); have n15_ := ak (blk_below (g := gb618) (o := .cells #[.int .i64 t614, .int .i64 t615] 49 (0, 0)) (uq BK618) hb); have n16_ := ak (below_step bs hb); clear HO599; clear HO628; clear HO632; clear HO638; clear HO643; clear HO647; clear HO651; clear HO657; clear HO661; clear HO665; clear HO669; clear BK610; clear BK611; clear BK617; clear BK618; clear HB; have HO599 := n0_; have HO628 := n1_; have HO632 := n2_; have HO638 := n3_; have HO643 := n4_; have HO647 := n5_; have HO651 := n6_; have HO657 := n7_; have HO661 := n8_; have HO665 := n9_; have HO669 := n10_; have HO673 := n11_; have BK610 := n12_; have BK611 := n13_; have BK617 := n14_; have BK618 := n15_; have HB := n16_; clear n0_ n1_ n2_ n3_ n4_ n5_ n6_ n7_ n8_ n9_ n10_ n11_ n12_ n13_ n14_ n15_ n16_; (try clear hb); (try clear ho0)) | ((with_reducible refine gate_callee (f := 53) rfl ?_); refine goesL_ (some 255) rfl rfl Try.func53 (by kernel_rfl) rfl #[.slice Ao95 t667.length co95] rfl aq ?_; (with_reducible refine (spec_PutDown.calls k _ _ t667 t674 t675 _ ?side1 ?side2 A49.out).mono ?_); (case side1 => exact cq (Kd.R_reads' HO669.out).2.2); (case side2 => exact (Kd.R_reads' HO669.out).2.1); rintro e w97 ⟨v676, rfl, ho0, hb⟩; refine ⟨_, rfl, ?_⟩; have n0_ := ak (Kd.R_elder' (rq HO599) (Kd.R_base ho0) hb); have n1_ := ak (Kd.R_elder' (rq HO628) (Kd.R_base ho0) hb); have n2_ := ak (Kd.R_elder' (rq HO632) (Kd.R_base ho0) hb); have n3_ := ak (Kd.R_elder' (rq HO638) (Kd.R_base ho0) hb); have n4_ := ak (Kd.R_elder' (rq HO643) (Kd.R_base ho0) hb); have n5_ := ak (Kd.R_below (rq HO647) hb); have n6_ := ak (Kd.R_below (rq HO651) hb); have n7_ := ak (Kd.R_elder' (rq HO657) (Kd.R_base ho0) hb); have n8_ := ak (Kd.R_elder' (rq HO661) (Kd.R_base ho0) hb); have n9_ := ak (Kd.R_elder' (rq HO665) (Kd.R_base ho0) hb); have n10_ := ak (Kd.R_elder' (rq HO669) (Kd.R_base ho0) hb); have n11_ := ak (Kd.R_elder' (rq HO673) (Kd.R_base ho0) hb); have n12_ := ak (Kd.R_lower (Kd.R_newB (Kd.R_newB (Kd.R_newB (Kd.R_newB (Kd.R_new' (Kd.R_new' (Kd.R_new' (Kd.R_new' (Kd.R_new' (Kd.R_new' (Kd.R_new' (Kd.R_new' (Kd.R_new' (Kd.R_new' ho0 (Kd.R_lt (rq HO599))) (Kd.R_lt (rq HO628))) (Kd.R_lt (rq HO632))) (Kd.R_lt (rq HO638))) (Kd.R_lt (rq HO643))) (Kd.R_lt (rq HO657))) (Kd.R_lt (rq HO661))) (Kd.R_lt (rq HO665))) (Kd.R_lt (rq HO669))) (Kd.R_lt (rq HO673))) (g := gb610) (o := .cells #[.int .i64 t605, .int .i64 t606] 49 (0, 0)) (uq BK610)) (g := gb611) (o := .cells #[.int .i64 t607, .int .i64 t608] 49 (0, 0)) (uq BK611)) (g := gb617) (o := .cells #[.int .i64 t612, .int .i64 t613] 49 (0, 0)) (uq BK617)) (g := gb618) (o := .cells #[.int .i64 t614, .int .i64 t615] 49 (0, 0)) (uq BK618)) (below_size bs)); have n13_ := ak (blk_below (g := gb610) (o := .cells #[.int .i64 t605, .int .i64 t606] 49 (0, 0)) (uq BK610) hb); have n14_ := ak (blk_below (g := gb611) (o := .cells #[.int .i64 t607, .int .i64 t608] 49 (0, 0)) (uq BK611) hb); have n15_ := ak (blk_below (g := gb617) (o := .cells #[.int .i64 t612, .int .i64 t613] 49 (0, 0)) (uq BK617) hb); have n16_ := ak (blk_below (g := gb618) (o := .cells #[.int .i64 t614, .int .i64 t615] 49 (0, 0)) (uq BK618) hb); have n17_ := ak (below_step bs hb); clear HO599; clear HO628; clear HO632; clear HO638; clear HO643; clear HO647; clear HO651; clear HO657; clear HO661; clear HO665; clear HO669; clear HO673; clear BK610; clear BK611; clear BK617; clear BK618; clear HB; have HO599 := n0_; have HO628 := n1_; have HO632 := n2_; have HO638 := n3_; have HO643 := n4_; have HO647 := n5_; have HO651 := n6_; have HO657 := n7_; have HO661 := n8_; have HO665 := n9_; have HO669 := n10_; have HO673 := n11_; have HO677 := n12_; have BK610 := n13_; have BK611 := n14_; have BK617 := n15_; have BK618 := n16_; have HB := n17_; clear n0_ n1_ n2_ n3_ n4_ n5_ n6_ n7_ n8_ n9_ n10_ n11_ n12_ n13_ n14_ n15_ n16_ n17_; (try clear hb); (try clear ho0)))
                         go_cut [274] (fun v274 wc => ∃ (kq : Nat) (x274_49 : Bool), v274 = .bool x274_49 ∧ Aside0 (laws_FnBodies.j0 kq t597 t600 t601 t619 t620 t625 t634 t635 t636 t645 t654 t655 t658 t659 x274_49 t605 t606 = some r) ∧ Aside0 (kq ≤ k) ∧ Aside0 (Kd.R k49 49 wc w.heap.size (fun k_ => some k_ ≠ ((.slice Ao78 t625.length co78) : Value).ownBlock ∧ some k_ ≠ ((.slice Ao82 t634.length co82) : Value).ownBlock ∧ some k_ ≠ ((.slice Ao89 t654.length co89) : Value).ownBlock ∧ some k_ ≠ ((.slice Ao92 t658.length co92) : Value).ownBlock ∧ k_ ≠ gb610 ∧ k_ ≠ gb611 ∧ k_ ≠ gb617 ∧ k_ ≠ gb618) (.slice Ao52 t597.length co52) t597) ∧ Aside0 (Kd.R k49 49 wc w.heap.size (fun k_ => some k_ ≠ ((.slice Ao52 t597.length co52) : Value).ownBlock ∧ some k_ ≠ ((.slice Ao82 t634.length co82) : Value).ownBlock ∧ some k_ ≠ ((.slice Ao89 t654.length co89) : Value).ownBlock ∧ some k_ ≠ ((.slice Ao92 t658.length co92) : Value).ownBlock ∧ k_ ≠ gb610 ∧ k_ ≠ gb611 ∧ k_ ≠ gb617 ∧ k_ ≠ gb618) (.slice Ao78 t625.length co78) t625) ∧ Aside0 (Kd.R k49 49 wc w.heap.size (fun k_ => some k_ ≠ ((.slice Ao52 t597.length co52) : Value).ownBlock ∧ some k_ ≠ ((.slice Ao78 t625.length co78) : Value).ownBlock ∧ some k_ ≠ ((.slice Ao89 t654.length co89) : Value).ownBlock ∧ some k_ ≠ ((.slice Ao92 t658.length co92) : Value).ownBlock ∧ k_ ≠ gb610 ∧ k_ ≠ gb611 ∧ k_ ≠ gb617 ∧ k_ ≠ gb618) (.slice Ao82 t634.length co82) t634) ∧ Aside0 (Kd.R (Kd.int .i64) 3 wc w.heap.size (fun _ => True) (.slice Ao86 t645.length co86) t645) ∧ Aside0 (Kd.R k49 49 wc w.heap.size (fun k_ => some k_ ≠ ((.slice Ao52 t597.length co52) : Value).ownBlock ∧ some k_ ≠ ((.slice Ao78 t625.length co78) : Value).ownBlock ∧ some k_ ≠ ((.slice Ao82 t634.length co82) : Value).ownBlock ∧ some k_ ≠ ((.slice Ao92 t658.length co92) : Value).ownBlock ∧ k_ ≠ gb610 ∧ k_ ≠ gb611 ∧ k_ ≠ gb617 ∧ k_ ≠ gb618) (.slice Ao89 t654.length co89) t654) ∧ Aside0 (Kd.R k49 49 wc w.heap.size (fun k_ => some k_ ≠ ((.slice Ao52 t597.length co52) : Value).ownBlock ∧ some k_ ≠ ((.slice Ao78 t625.length co78) : Value).ownBlock ∧ some k_ ≠ ((.slice Ao82 t634.length co82) : Value).ownBlock ∧ some k_ ≠ ((.slice Ao89 t654.length co89) : Value).ownBlock ∧ k_ ≠ gb610 ∧ k_ ≠ gb611 ∧ k_ ≠ gb617 ∧ k_ ≠ gb618) (.slice Ao92 t658.length co92) t658) ∧ Aside0 (wc.heap[gb610]? = some (.cells #[.int .i64 t605, .int .i64 t606] 49 (0, 0))) ∧ Aside0 (wc.heap[gb611]? = some (.cells #[.int .i64 t607, .int .i64 t608] 49 (0, 0))) ∧ Aside0 (wc.heap[gb617]? = some (.cells #[.int .i64 t612, .int .i64 t613] 49 (0, 0))) ∧ Aside0 (wc.heap[gb618]? = some (.cells #[.int .i64 t614, .int .i64 t615] 49 (0, 0))) ∧ Aside0 (Below w.heap.size w wc))
                         case first =>
                          as_aux_lemma =>
                           have H := HC50.out; clear HC50
                           by_cases c98 : (t671 != t675) = true
                           ·rw [if_pos c98] at H
                            exact absurd H (by simp)
                           ·rw [if_neg c98] at H
                            have c98b0 : (t671 != t675) = false := by simpa using c98
                            (try (have c98b1 : decide (t671 = t675) = true := by simpa using c98))
                            (try (have c98b2 : (t671 == t675) = true := by simpa using c98))
                            clear c98
                            (skip)
                            obtain ⟨t678, A990, H⟩ := Option.bind_eq_some_iff.mp H
                            have A99 := ak A990; clear A990
                            by_cases c100 : t678 = true
                            ·subst c100
                             rw [if_pos rfl] at H
                             by_cases c101 : t671 = true
                             ·subst c101
                              rw [if_pos rfl] at H; obtain ⟨t679, A1020, H⟩ := Option.bind_eq_some_iff.mp H
                              have A102 := ak A1020; clear A1020; have H' := ak H; clear H; obtain ⟨Ao103, co103, eo103⟩ := Kd.R_slice HO673.out; subst eo103; obtain ⟨Ao104, co104, eo104⟩ := Kd.R_slice HO677.out; subst eo104
                              as_aux_lemma =>
                               go_wp2_with (first | (go_at_call 33; (with_reducible refine (laws_rCells.calls k _ _ t670 _ _ t674 true _ ?side1 ?side2 ?side3 ?side4 A99.out).mono ?_); (case side1 => exact cq (Kd.R_reads' HO673.out).2.2); (case side2 => exact (Kd.R_reads' HO673.out).2.1); (case side3 => exact cq (Kd.R_reads' HO677.out).2.2); (case side4 => exact (Kd.R_reads' HO677.out).2.1); rintro e w' ⟨rfl, ⟨nd, rfl⟩⟩) | (go_at_call 34; (with_reducible refine (impl_IsBody.calls k _ _ t670 t679 _ ?side1 ?side2 A102.out).mono ?_); (case side1 => exact cq (Kd.R_reads' HO673.out).2.2); (case side2 => exact (Kd.R_reads' HO673.out).2.1); rintro e w105 ⟨rfl, hb⟩; have n0_ := ak (Kd.R_below (rq HO599) hb); have n1_ := ak (Kd.R_below (rq HO628) hb); have n2_ := ak (Kd.R_below (rq HO632) hb); have n3_ := ak (Kd.R_below (rq HO638) hb); have n4_ := ak (Kd.R_below (rq HO643) hb); have n5_ := ak (Kd.R_below (rq HO647) hb); have n6_ := ak (Kd.R_below (rq HO651) hb); have n7_ := ak (Kd.R_below (rq HO657) hb); have n8_ := ak (Kd.R_below (rq HO661) hb); have n9_ := ak (Kd.R_below (rq HO665) hb); have n10_ := ak (Kd.R_below (rq HO669) hb); have n11_ := ak (Kd.R_below (rq HO673) hb); have n12_ := ak (Kd.R_below (rq HO677) hb); have n13_ := ak (blk_below (g := gb610) (o := .cells #[.int .i64 t605, .int .i64 t606] 49 (0, 0)) (uq BK610) hb); have n14_ := ak (blk_below (g := gb611) (o := .cells #[.int .i64 t607, .int .i64 t608] 49 (0, 0)) (uq BK611) hb); have n15_ := ak (blk_below (g := gb617) (o := .cells #[.int .i64 t612, .int .i64 t613] 49 (0, 0)) (uq BK617) hb); have n16_ := ak (blk_below (g := gb618) (o := .cells #[.int .i64 t614, .int .i64 t615] 49 (0, 0)) (uq BK618) hb); have n17_ := ak (below_step bs hb); clear HO599; clear HO628; clear HO632; clear HO638; clear HO643; clear HO647; clear HO651; clear HO657; clear HO661; clear HO665; clear HO669; clear HO673; clear HO677; clear BK610; clear BK611; clear BK617; clear BK618; clear HB; have HO599 := n0_; have HO628 := n1_; have HO632 := n2_; have HO638 := n3_; have HO643 := n4_; have HO647 := n5_; have HO651 := n6_; have HO657 := n7_; have HO661 := n8_; have HO665 := n9_; have HO669 := n10_; have HO673 := n11_; have HO677 := n12_; have BK610 := n13_; have BK611 := n14_; have BK617 := n15_; have BK618 := n16_; have HB := n17_; clear n0_ n1_ n2_ n3_ n4_ n5_ n6_ n7_ n8_ n9_ n10_ n11_ n12_ n13_ n14_ n15_ n16_ n17_; (try clear hb)))
                               as_aux_lemma =>
                                go_meet
                                case rel => exact ⟨_, (!t679), sq, H', ⟨by first | omega | exact Nat.le_refl _⟩, ⟨by exact rm_ HO599.out⟩, ⟨by exact rm_ HO628.out⟩, ⟨by exact rm_ HO638.out⟩, ⟨by exact Kd.R_mono HO647.out (fun _ hk => trivial)⟩, ⟨by exact rm_ HO657.out⟩, ⟨by exact rm_ HO661.out⟩, ⟨by exact BK610.out⟩, ⟨by exact BK611.out⟩, ⟨by exact BK617.out⟩, ⟨by exact BK618.out⟩, ⟨bs⟩⟩
                             ·replace c101 := Bool.eq_false_iff.mpr c101
                              subst c101; rw [if_neg (show ¬ (false = true) by decide)] at H; have H' := ak H; clear H; obtain ⟨Ao106, co106, eo106⟩ := Kd.R_slice HO673.out; subst eo106; obtain ⟨Ao107, co107, eo107⟩ := Kd.R_slice HO677.out; subst eo107
                              as_aux_lemma =>
                               go_wp2_with ((go_at_call 33; (with_reducible refine (laws_rCells.calls k _ _ t670 _ _ t674 true _ ?side1 ?side2 ?side3 ?side4 A99.out).mono ?_); (case side1 => exact cq (Kd.R_reads' HO673.out).2.2); (case side2 => exact (Kd.R_reads' HO673.out).2.1); (case side3 => exact cq (Kd.R_reads' HO677.out).2.2); (case side4 => exact (Kd.R_reads' HO677.out).2.1); rintro e w' ⟨rfl, ⟨nd, rfl⟩⟩))
                               as_aux_lemma =>
                                go_meet
                                case rel => exact ⟨_, (false), sq, H', ⟨by first | omega | exact Nat.le_refl _⟩, ⟨by (with_reducible repeat (apply Kd.R_drewN)); exact rm_ HO599.out⟩, ⟨by (with_reducible repeat (apply Kd.R_drewN)); exact rm_ HO628.out⟩, ⟨by (with_reducible repeat (apply Kd.R_drewN)); exact rm_ HO638.out⟩, ⟨by (with_reducible repeat (apply Kd.R_drewN)); exact Kd.R_mono HO647.out (fun _ hk => trivial)⟩, ⟨by (with_reducible repeat (apply Kd.R_drewN)); exact rm_ HO657.out⟩, ⟨by (with_reducible repeat (apply Kd.R_drewN)); exact rm_ HO661.out⟩, ⟨by (with_reducible repeat (refine blk_drewN ?_ _)); exact BK610.out⟩, ⟨by (with_reducible repeat (refine blk_drewN ?_ _)); exact BK611.out⟩, ⟨by (with_reducible repeat (refine blk_drewN ?_ _)); exact BK617.out⟩, ⟨by (with_reducible repeat (refine blk_drewN ?_ _)); exact BK618.out⟩, ⟨bs⟩⟩
                            ·replace c100 := Bool.eq_false_iff.mpr c100
                             subst c100; rw [if_neg (show ¬ (false = true) by decide)] at H; exact absurd H (by simp)
                         case rest =>
                          clear HC50; (try clear c7b0); (try clear c7b1); (try clear c8b0); (try clear c8b1); (try clear c8b2); (try clear c10b0); (try clear c10b1); (try clear c10b2); (try clear c13b0); (try clear c14b0); (try clear c15b0); (try clear c15b1); (try clear c15b2); (try clear c16b0); (try clear c16b1); (try clear c16b2); (try clear c19b0); (try clear c19b1); (try clear c20b0); (try clear c20b1); (try clear c21b0); (try clear c21b1); (try clear c21b2); (try clear c22b0); (try clear c22b1); (try clear c22b2); (try clear c25b0); (try clear c25b1); (try clear c25b2); (try clear c26b0); (try clear c26b1); (try clear c26b2); (try clear c31b0); (try clear c31b1); (try clear c32b0); (try clear c32b1); (try clear c32b2); (try clear c37b0); (try clear c37b1); (try clear c37b2); (try clear c38b0); (try clear c38b1); (try clear c38b2); (try clear c44b0); (try clear c44b1); (try clear c44b2); (try clear hcz60_0); (try clear hcz60_1); (try clear hcz61_0); (try clear hcz61_1); (try clear hcz68_0); (try clear hcz68_1); (try clear hcz71_0); (try clear hcz71_1); (try clear hcz72_0); (try clear hcz72_1); (try clear hcz73_0); (try clear hcz73_1); (try clear hfz60_0); (try clear hfz60_1); (try clear hfz61_0); (try clear hfz61_1); (try clear hfz68_0); (try clear hfz68_1); (try clear hfz71_0); (try clear hfz71_1); (try clear hfz72_0); (try clear hfz72_1); (try clear hfz73_0); (try clear hfz73_1); obtain ⟨kq, x274_49, rfl, HA, HJ49, HO_3, HO_20, HO_24, HO_30, HO_34, HO_36, BK610, BK611, BK617, BK618, HB⟩ := hcut
                          cases kq with
                          | zero => exact absurd HA.out (by simp [laws_FnBodies.j0])
                          | succ kj49 =>
                           have H := HA.out; clear HA; simp only [laws_FnBodies.j0] at H
                           by_cases c108 : x274_49 = true
                           ·subst c108
                            rw [if_pos rfl] at H; exact absurd H (by simp)
                           ·replace c108 := Bool.eq_false_iff.mpr c108
                            subst c108; rw [if_neg (show ¬ (false = true) by decide)] at H; have HC109 := ak H; clear H
                            as_aux_lemma =>
                             go_upto_if 275 with (fail)
                             go_cut [] (fun wc => ∃ (kq : Nat), Aside0 (laws_FnBodies.j1 kq t597 t600 t601 t619 t620 t625 t634 t635 t636 t645 t605 t606 = some r) ∧ Aside0 (kq ≤ kj49) ∧ Aside0 (Kd.R k49 49 wc w.heap.size (fun k_ => some k_ ≠ ((.slice Ao78 t625.length co78) : Value).ownBlock ∧ some k_ ≠ ((.slice Ao82 t634.length co82) : Value).ownBlock ∧ k_ ≠ gb610 ∧ k_ ≠ gb611 ∧ k_ ≠ gb617 ∧ k_ ≠ gb618) (.slice Ao52 t597.length co52) t597) ∧ Aside0 (Kd.R k49 49 wc w.heap.size (fun k_ => some k_ ≠ ((.slice Ao52 t597.length co52) : Value).ownBlock ∧ some k_ ≠ ((.slice Ao82 t634.length co82) : Value).ownBlock ∧ k_ ≠ gb610 ∧ k_ ≠ gb611 ∧ k_ ≠ gb617 ∧ k_ ≠ gb618) (.slice Ao78 t625.length co78) t625) ∧ Aside0 (Kd.R k49 49 wc w.heap.size (fun k_ => some k_ ≠ ((.slice Ao52 t597.length co52) : Value).ownBlock ∧ some k_ ≠ ((.slice Ao78 t625.length co78) : Value).ownBlock ∧ k_ ≠ gb610 ∧ k_ ≠ gb611 ∧ k_ ≠ gb617 ∧ k_ ≠ gb618) (.slice Ao82 t634.length co82) t634) ∧ Aside0 (Kd.R (Kd.int .i64) 3 wc w.heap.size (fun _ => True) (.slice Ao86 t645.length co86) t645) ∧ Aside0 (wc.heap[gb610]? = some (.cells #[.int .i64 t605, .int .i64 t606] 49 (0, 0))) ∧ Aside0 (wc.heap[gb611]? = some (.cells #[.int .i64 t607, .int .i64 t608] 49 (0, 0))) ∧ Aside0 (wc.heap[gb617]? = some (.cells #[.int .i64 t612, .int .i64 t613] 49 (0, 0))) ∧ Aside0 (wc.heap[gb618]? = some (.cells #[.int .i64 t614, .int .i64 t615] 49 (0, 0))) ∧ Aside0 (Below w.heap.size w wc))
                             case first =>
                              as_aux_lemma =>
                               have H := HC109.out; clear HC109
                               by_cases c110 : t659 = true
                               ·subst c110
                                rw [if_pos rfl] at H; obtain ⟨⟨t680, t681⟩, A1110, H⟩ := Option.bind_eq_some_iff.mp H
                                (try dsimp only at H)
                                have A111 := ak A1110; clear A1110
                                by_cases c112 : t681 = true
                                ·subst c112
                                 rw [if_pos rfl] at H; obtain ⟨t684, A1130, H⟩ := Option.bind_eq_some_iff.mp H
                                 have A113 := ak A1130; clear A1130
                                 by_cases c114 : t684 = true
                                 ·subst c114
                                  rw [if_pos rfl] at H; have H' := ak H; clear H
                                  as_aux_lemma =>
                                   go_wp2_with (first | ((with_reducible refine gate_callee (f := 49) rfl ?_); refine goesL_ (some 280) rfl rfl Try.func49 (by kernel_rfl) rfl #[.slice Ao92 t658.length co92, .int .i64 (wrap64 (-t655))] rfl aq ?_; (with_reducible refine (impl_TurnBody.calls kj49 _ _ t658 (wrap64 (-t655)) t680 true _ ?side1 ?side2 A111.out).mono ?_); (case side1 => exact cq (Kd.R_reads' HO_36.out).2.2); (case side2 => exact (Kd.R_reads' HO_36.out).2.1); rintro e w115 ⟨v682, rfl, ho0, hb⟩; refine ⟨_, rfl, ?_⟩; have n0_ := ak (Kd.R_elder' (rq HO_3) (Kd.R_base ho0) hb); have n1_ := ak (Kd.R_elder' (rq HO_20) (Kd.R_base ho0) hb); have n2_ := ak (Kd.R_elder' (rq HO_24) (Kd.R_base ho0) hb); have n3_ := ak (Kd.R_below (rq HO_30) hb); have n4_ := ak (Kd.R_elder' (rq HO_34) (Kd.R_base ho0) hb); have n5_ := ak (Kd.R_elder' (rq HO_36) (Kd.R_base ho0) hb); have n6_ := ak (Kd.R_lower (Kd.R_newB (Kd.R_newB (Kd.R_newB (Kd.R_newB (Kd.R_new' (Kd.R_new' (Kd.R_new' (Kd.R_new' (Kd.R_new' ho0 (Kd.R_lt (rq HO_3))) (Kd.R_lt (rq HO_20))) (Kd.R_lt (rq HO_24))) (Kd.R_lt (rq HO_34))) (Kd.R_lt (rq HO_36))) (g := gb610) (o := .cells #[.int .i64 t605, .int .i64 t606] 49 (0, 0)) (uq BK610)) (g := gb611) (o := .cells #[.int .i64 t607, .int .i64 t608] 49 (0, 0)) (uq BK611)) (g := gb617) (o := .cells #[.int .i64 t612, .int .i64 t613] 49 (0, 0)) (uq BK617)) (g := gb618) (o := .cells #[.int .i64 t614, .int .i64 t615] 49 (0, 0)) (uq BK618)) (below_size bs)); have n7_ := ak (blk_below (g := gb610) (o := .cells #[.int .i64 t605, .int .i64 t606] 49 (0, 0)) (uq BK610) hb); have n8_ := ak (blk_below (g := gb611) (o := .cells #[.int .i64 t607, .int .i64 t608] 49 (0, 0)) (uq BK611) hb); have n9_ := ak (blk_below (g := gb617) (o := .cells #[.int .i64 t612, .int .i64 t613] 49 (0, 0)) (uq BK617) hb); have n10_ := ak (blk_below (g := gb618) (o := .cells #[.int .i64 t614, .int .i64 t615] 49 (0, 0)) (uq BK618) hb); have n11_ := ak (below_step bs hb); clear HO_3; clear HO_20; clear HO_24; clear HO_30; clear HO_34; clear HO_36; clear BK610; clear BK611; clear BK617; clear BK618; clear HB; have HO_3 := n0_; have HO_20 := n1_; have HO_24 := n2_; have HO_30 := n3_; have HO_34 := n4_; have HO_36 := n5_; have HO683 := n6_; have BK610 := n7_; have BK611 := n8_; have BK617 := n9_; have BK618 := n10_; have HB := n11_; clear n0_ n1_ n2_ n3_ n4_ n5_ n6_ n7_ n8_ n9_ n10_ n11_; (try clear hb); (try clear ho0); obtain ⟨Ao116, co116, eo116⟩ := Kd.R_slice HO683.out; subst eo116) | (go_at_call 33; (with_reducible refine (laws_rCells.calls kj49 _ _ t680 _ _ t654 true _ ?side1 ?side2 ?side3 ?side4 A113.out).mono ?_); (case side1 => exact cq (Kd.R_reads' HO683.out).2.2); (case side2 => exact (Kd.R_reads' HO683.out).2.1); (case side3 => exact cq (Kd.R_reads' HO_34.out).2.2); (case side4 => exact (Kd.R_reads' HO_34.out).2.1); rintro e w' ⟨rfl, ⟨nd, rfl⟩⟩))
                                   as_aux_lemma =>
                                    go_meet
                                    case rel => exact ⟨_, H', ⟨by have := HJ49.out; first | omega | exact Nat.le_refl _⟩, ⟨by (with_reducible repeat (apply Kd.R_drewN)); exact rm_ HO_3.out⟩, ⟨by (with_reducible repeat (apply Kd.R_drewN)); exact rm_ HO_20.out⟩, ⟨by (with_reducible repeat (apply Kd.R_drewN)); exact rm_ HO_24.out⟩, ⟨rq HO_30⟩, ⟨by (with_reducible repeat (refine blk_drewN ?_ _)); exact BK610.out⟩, ⟨by (with_reducible repeat (refine blk_drewN ?_ _)); exact BK611.out⟩, ⟨by (with_reducible repeat (refine blk_drewN ?_ _)); exact BK617.out⟩, ⟨by (with_reducible repeat (refine blk_drewN ?_ _)); exact BK618.out⟩, ⟨bs⟩⟩
                                 ·replace c114 := Bool.eq_false_iff.mpr c114
                                  subst c114; rw [if_neg (show ¬ (false = true) by decide)] at H; exact absurd H (by simp)
                                ·replace c112 := Bool.eq_false_iff.mpr c112
                                 subst c112; rw [if_neg (show ¬ (false = true) by decide)] at H; exact absurd H (by simp)
                               ·replace c110 := Bool.eq_false_iff.mpr c110
                                subst c110; rw [if_neg (show ¬ (false = true) by decide)] at H; have H' := ak H; clear H; go_wp2
                                as_aux_lemma =>
                                 go_meet
                                 case rel => exact ⟨_, H', ⟨by have := HJ49.out; first | omega | exact Nat.le_refl _⟩, ⟨by exact rm_ HO_3.out⟩, ⟨by exact rm_ HO_20.out⟩, ⟨by exact rm_ HO_24.out⟩, ⟨rq HO_30⟩, ⟨by exact BK610.out⟩, ⟨by exact BK611.out⟩, ⟨by exact BK617.out⟩, ⟨by exact BK618.out⟩, ⟨bs⟩⟩
                             case rest =>
                              clear HC109; obtain ⟨kq, HA, HJ108, HO_3, HO_20, HO_24, HO_30, BK610, BK611, BK617, BK618, HB⟩ := hcut
                              cases kq with
                              | zero => exact absurd HA.out (by simp [laws_FnBodies.j1])
                              | succ kj108 =>
                               have H := HA.out; clear HA; simp only [laws_FnBodies.j1] at H
                               by_cases c117 : t601 = true
                               ·subst c117
                                rw [if_pos rfl] at H; have HC118 := ak H; clear H
                                as_aux_lemma =>
                                 go_upto_region 44 with (fail)
                                 go_cut [326] (fun v326 wc => ∃ (kq : Nat) (x326_117 : Bool), v326 = .bool x326_117 ∧ Aside0 (laws_FnBodies.j2 kq t597 t600 t625 t634 t635 t636 t645 x326_117 = some r) ∧ Aside0 (kq ≤ kj108) ∧ Aside0 (Kd.R k49 49 wc w.heap.size (fun k_ => some k_ ≠ ((.slice Ao78 t625.length co78) : Value).ownBlock ∧ some k_ ≠ ((.slice Ao82 t634.length co82) : Value).ownBlock ∧ k_ ≠ gb610 ∧ k_ ≠ gb611 ∧ k_ ≠ gb617 ∧ k_ ≠ gb618) (.slice Ao52 t597.length co52) t597) ∧ Aside0 (Kd.R k49 49 wc w.heap.size (fun k_ => some k_ ≠ ((.slice Ao52 t597.length co52) : Value).ownBlock ∧ some k_ ≠ ((.slice Ao82 t634.length co82) : Value).ownBlock ∧ k_ ≠ gb610 ∧ k_ ≠ gb611 ∧ k_ ≠ gb617 ∧ k_ ≠ gb618) (.slice Ao78 t625.length co78) t625) ∧ Aside0 (Kd.R k49 49 wc w.heap.size (fun k_ => some k_ ≠ ((.slice Ao52 t597.length co52) : Value).ownBlock ∧ some k_ ≠ ((.slice Ao78 t625.length co78) : Value).ownBlock ∧ k_ ≠ gb610 ∧ k_ ≠ gb611 ∧ k_ ≠ gb617 ∧ k_ ≠ gb618) (.slice Ao82 t634.length co82) t634) ∧ Aside0 (Kd.R (Kd.int .i64) 3 wc w.heap.size (fun _ => True) (.slice Ao86 t645.length co86) t645) ∧ Aside0 (wc.heap[gb610]? = some (.cells #[.int .i64 t605, .int .i64 t606] 49 (0, 0))) ∧ Aside0 (wc.heap[gb611]? = some (.cells #[.int .i64 t607, .int .i64 t608] 49 (0, 0))) ∧ Aside0 (wc.heap[gb617]? = some (.cells #[.int .i64 t612, .int .i64 t613] 49 (0, 0))) ∧ Aside0 (wc.heap[gb618]? = some (.cells #[.int .i64 t614, .int .i64 t615] 49 (0, 0))) ∧ Aside0 (Below w.heap.size w wc))
                                 case first =>
                                  as_aux_lemma =>
                                   have H := HC118.out; clear HC118
                                   by_cases c119 : t605 ≥ (wrap64 (t619 * t606))
                                   ·rw [if_pos c119] at H
                                    have c119b0 : decide ((wrap64 (t619 * t606)) ≤ t605) = true := decide_eq_true c119; clear c119
                                    (skip)
                                    by_cases c120 : ((t600 == 0) != (decide (t605 ≤ (wrap64 (t620 * t606))))) = true
                                    ·rw [if_pos c120] at H
                                     exact absurd H (by simp)
                                    ·rw [if_neg c120] at H
                                     have c120b0 : ((t600 == 0) != (decide (t605 ≤ (wrap64 (t620 * t606))))) = false := by simpa using c120
                                     (try (have c120b1 : decide ((t600 == 0) = (decide (t605 ≤ (wrap64 (t620 * t606))))) = true := by simpa using c120))
                                     (try (have c120b2 : ((t600 == 0) == (decide (t605 ≤ (wrap64 (t620 * t606))))) = true := by simpa using c120))
                                     clear c120; obtain ⟨t685, A1210, H⟩ := Option.bind_eq_some_iff.mp H
                                     have A121 := ak A1210; clear A1210
                                     by_cases c122 : (t685 != (t600 == 0)) = true
                                     ·rw [if_pos c122] at H
                                      exact absurd H (by simp)
                                     ·rw [if_neg c122] at H
                                      have c122b0 : (t685 != (t600 == 0)) = false := by simpa using c122
                                      (try (have c122b1 : decide (t685 = (t600 == 0)) = true := by simpa using c122))
                                      (try (have c122b2 : (t685 == (t600 == 0)) = true := by simpa using c122))
                                      clear c122
                                      by_cases c123 : t636 = true
                                      ·subst c123
                                       rw [if_pos rfl] at H; have H' := ak H; clear H; have hnb124 := NB610_611.out; have hnc124 := NB611_610.out; have hnb125 := NB610_617.out; have hnc125 := NB617_610.out; have hnb126 := NB610_618.out; have hnc126 := NB618_610.out; have hcz127_0 : wc.cell? ⟨gb610, 0, none⟩ = some (.int .i64 t605) := (blk_cell BK610.out 0).trans rfl; have hcz127_1 : wc.cell? ⟨gb610, 1, none⟩ = some (.int .i64 t606) := (blk_cell BK610.out 1).trans rfl; have hfz127_0 := blk_frozen BK610.out 0; have hfz127_1 := blk_frozen BK610.out 1
                                       as_aux_lemma =>
                                        go_wp2_with ((go_at_call 54; (with_reducible refine (laws_rHas.calls kj108 _ _ t645 0 t685 _ ?side1 ?side2 A121.out).mono ?_); (case side1 => exact cq (Kd.R_reads' HO_30.out).2.2); (case side2 => exact (Kd.R_reads' HO_30.out).2.1); rintro e w' ⟨rfl, ⟨nd, rfl⟩⟩))
                                        as_aux_lemma =>
                                         go_meet
                                         case rel => exact ⟨_, (((t645.length : Int) == 0)), sq, H', ⟨by have := HJ49.out; have := HJ108.out; first | omega | exact Nat.le_refl _⟩, ⟨rq HO_3⟩, ⟨rq HO_20⟩, ⟨rq HO_24⟩, ⟨rq HO_30⟩, ⟨by (with_reducible repeat (refine blk_drewN ?_ _)); exact BK610.out⟩, ⟨by (with_reducible repeat (refine blk_drewN ?_ _)); exact BK611.out⟩, ⟨by (with_reducible repeat (refine blk_drewN ?_ _)); exact BK617.out⟩, ⟨by (with_reducible repeat (refine blk_drewN ?_ _)); exact BK618.out⟩, ⟨bs⟩⟩
                                      ·replace c123 := Bool.eq_false_iff.mpr c123
                                       subst c123; rw [if_neg (show ¬ (false = true) by decide)] at H; have H' := ak H; clear H; have hnb128 := NB610_611.out; have hnc128 := NB611_610.out; have hnb129 := NB610_617.out; have hnc129 := NB617_610.out; have hnb130 := NB610_618.out; have hnc130 := NB618_610.out; have hcz131_0 : wc.cell? ⟨gb610, 0, none⟩ = some (.int .i64 t605) := (blk_cell BK610.out 0).trans rfl; have hcz131_1 : wc.cell? ⟨gb610, 1, none⟩ = some (.int .i64 t606) := (blk_cell BK610.out 1).trans rfl; have hfz131_0 := blk_frozen BK610.out 0; have hfz131_1 := blk_frozen BK610.out 1
                                       as_aux_lemma =>
                                        go_wp2_with ((go_at_call 54; (with_reducible refine (laws_rHas.calls kj108 _ _ t645 0 t685 _ ?side1 ?side2 A121.out).mono ?_); (case side1 => exact cq (Kd.R_reads' HO_30.out).2.2); (case side2 => exact (Kd.R_reads' HO_30.out).2.1); rintro e w' ⟨rfl, ⟨nd, rfl⟩⟩))
                                        as_aux_lemma =>
                                         go_meet
                                         case rel => exact ⟨_, (false), sq, H', ⟨by have := HJ49.out; have := HJ108.out; first | omega | exact Nat.le_refl _⟩, ⟨rq HO_3⟩, ⟨rq HO_20⟩, ⟨rq HO_24⟩, ⟨rq HO_30⟩, ⟨by (with_reducible repeat (refine blk_drewN ?_ _)); exact BK610.out⟩, ⟨by (with_reducible repeat (refine blk_drewN ?_ _)); exact BK611.out⟩, ⟨by (with_reducible repeat (refine blk_drewN ?_ _)); exact BK617.out⟩, ⟨by (with_reducible repeat (refine blk_drewN ?_ _)); exact BK618.out⟩, ⟨bs⟩⟩
                                   ·rw [if_neg c119] at H
                                    have c119b0 : decide ((wrap64 (t619 * t606)) ≤ t605) = false := decide_eq_false c119; clear c119
                                    (skip)
                                    by_cases c132 : ((t600 == 0) != false) = true
                                    ·rw [if_pos c132] at H
                                     exact absurd H (by simp)
                                    ·rw [if_neg c132] at H
                                     have c132b0 : ((t600 == 0) != false) = false := by simpa using c132
                                     (try (have c132b1 : decide ((t600 == 0) = false) = true := by simpa using c132))
                                     (try (have c132b2 : ((t600 == 0) == false) = true := by simpa using c132))
                                     clear c132; obtain ⟨t686, A1330, H⟩ := Option.bind_eq_some_iff.mp H
                                     have A133 := ak A1330; clear A1330
                                     by_cases c134 : (t686 != (t600 == 0)) = true
                                     ·rw [if_pos c134] at H
                                      exact absurd H (by simp)
                                     ·rw [if_neg c134] at H
                                      have c134b0 : (t686 != (t600 == 0)) = false := by simpa using c134
                                      (try (have c134b1 : decide (t686 = (t600 == 0)) = true := by simpa using c134))
                                      (try (have c134b2 : (t686 == (t600 == 0)) = true := by simpa using c134))
                                      clear c134
                                      by_cases c135 : t636 = true
                                      ·subst c135
                                       rw [if_pos rfl] at H; have H' := ak H; clear H; have hnb136 := NB610_611.out; have hnc136 := NB611_610.out; have hnb137 := NB610_617.out; have hnc137 := NB617_610.out; have hnb138 := NB610_618.out; have hnc138 := NB618_610.out; have hcz139_0 : wc.cell? ⟨gb610, 0, none⟩ = some (.int .i64 t605) := (blk_cell BK610.out 0).trans rfl; have hcz139_1 : wc.cell? ⟨gb610, 1, none⟩ = some (.int .i64 t606) := (blk_cell BK610.out 1).trans rfl; have hfz139_0 := blk_frozen BK610.out 0; have hfz139_1 := blk_frozen BK610.out 1
                                       as_aux_lemma =>
                                        go_wp2_with ((go_at_call 54; (with_reducible refine (laws_rHas.calls kj108 _ _ t645 0 t686 _ ?side1 ?side2 A133.out).mono ?_); (case side1 => exact cq (Kd.R_reads' HO_30.out).2.2); (case side2 => exact (Kd.R_reads' HO_30.out).2.1); rintro e w' ⟨rfl, ⟨nd, rfl⟩⟩))
                                        as_aux_lemma =>
                                         go_meet
                                         case rel => exact ⟨_, (((t645.length : Int) == 0)), sq, H', ⟨by have := HJ49.out; have := HJ108.out; first | omega | exact Nat.le_refl _⟩, ⟨rq HO_3⟩, ⟨rq HO_20⟩, ⟨rq HO_24⟩, ⟨rq HO_30⟩, ⟨by (with_reducible repeat (refine blk_drewN ?_ _)); exact BK610.out⟩, ⟨by (with_reducible repeat (refine blk_drewN ?_ _)); exact BK611.out⟩, ⟨by (with_reducible repeat (refine blk_drewN ?_ _)); exact BK617.out⟩, ⟨by (with_reducible repeat (refine blk_drewN ?_ _)); exact BK618.out⟩, ⟨bs⟩⟩
                                      ·replace c135 := Bool.eq_false_iff.mpr c135
                                       subst c135; rw [if_neg (show ¬ (false = true) by decide)] at H; have H' := ak H; clear H; have hnb140 := NB610_611.out; have hnc140 := NB611_610.out; have hnb141 := NB610_617.out; have hnc141 := NB617_610.out; have hnb142 := NB610_618.out; have hnc142 := NB618_610.out; have hcz143_0 : wc.cell? ⟨gb610, 0, none⟩ = some (.int .i64 t605) := (blk_cell BK610.out 0).trans rfl; have hcz143_1 : wc.cell? ⟨gb610, 1, none⟩ = some (.int .i64 t606) := (blk_cell BK610.out 1).trans rfl; have hfz143_0 := blk_frozen BK610.out 0; have hfz143_1 := blk_frozen BK610.out 1
                                       as_aux_lemma =>
                                        go_wp2_with ((go_at_call 54; (with_reducible refine (laws_rHas.calls kj108 _ _ t645 0 t686 _ ?side1 ?side2 A133.out).mono ?_); (case side1 => exact cq (Kd.R_reads' HO_30.out).2.2); (case side2 => exact (Kd.R_reads' HO_30.out).2.1); rintro e w' ⟨rfl, ⟨nd, rfl⟩⟩))
                                        as_aux_lemma =>
                                         go_meet
                                         case rel => exact ⟨_, (false), sq, H', ⟨by have := HJ49.out; have := HJ108.out; first | omega | exact Nat.le_refl _⟩, ⟨rq HO_3⟩, ⟨rq HO_20⟩, ⟨rq HO_24⟩, ⟨rq HO_30⟩, ⟨by (with_reducible repeat (refine blk_drewN ?_ _)); exact BK610.out⟩, ⟨by (with_reducible repeat (refine blk_drewN ?_ _)); exact BK611.out⟩, ⟨by (with_reducible repeat (refine blk_drewN ?_ _)); exact BK617.out⟩, ⟨by (with_reducible repeat (refine blk_drewN ?_ _)); exact BK618.out⟩, ⟨bs⟩⟩
                                 case rest =>
                                  clear HC118
                                  obtain ⟨kq, x326_117, rfl, HA, HJ117, HO_3, HO_20, HO_24, HO_30, BK610, BK611, BK617, BK618, HB⟩ := hcut
                                  cases kq with
                                  | zero => exact absurd HA.out (by simp [laws_FnBodies.j2])
                                  | succ kj117 =>
                                   have H := HA.out; clear HA; simp only [laws_FnBodies.j2] at H
                                   by_cases c144 : x326_117 = true
                                   ·subst c144
                                    rw [if_pos rfl] at H; exact absurd H (by simp)
                                   ·replace c144 := Bool.eq_false_iff.mpr c144
                                    subst c144; rw [if_neg (show ¬ (false = true) by decide)] at H; obtain ⟨⟨t687, t688⟩, A1450, H⟩ := Option.bind_eq_some_iff.mp H
                                    (try dsimp only at H)
                                    have A145 := ak A1450; clear A1450; obtain ⟨⟨t689, t690⟩, A1460, H⟩ := Option.bind_eq_some_iff.mp H
                                    (try dsimp only at H)
                                    have A146 := ak A1460; clear A1460
                                    by_cases c147 : t688 = true
                                    ·subst c147
                                     rw [if_pos rfl] at H
                                     by_cases c148 : t690 = true
                                     ·subst c148
                                      rw [if_pos rfl] at H
                                      by_cases c149 : t687 = (wrap64 (-t600))
                                      ·rw [if_pos c149] at H
                                       have c149b0 : (t687 == (wrap64 (-t600))) = true := beq_iff_eq.mpr c149; have c149b1 : (t687 != (wrap64 (-t600))) = false := bne_eq_false_iff_eq.mpr c149; clear c149; obtain ⟨t693, A1500, H⟩ := Option.bind_eq_some_iff.mp H
                                       have A150 := ak A1500; clear A1500
                                       by_cases c151 : t693 = true
                                       ·subst c151
                                        rw [if_pos rfl] at H; have H' := ak H; clear H
                                        as_aux_lemma =>
                                         go_wp2_with (first | ((with_reducible refine gate_callee (f := 36) rfl ?_); refine goesL_ (some 329) rfl rfl Try.func36 (by kernel_rfl) rfl #[.slice Ao78 t625.length co78] rfl aq ?_; (with_reducible refine (impl_BodySide.calls kj117 _ _ t625 t687 true _ ?side1 ?side2 A145.out).mono ?_); (case side1 => exact cq (Kd.R_reads' HO_20.out).2.2); (case side2 => exact (Kd.R_reads' HO_20.out).2.1); rintro e w152 ⟨rfl, hb⟩; refine ⟨_, rfl, ?_⟩; have n0_ := ak (Kd.R_below (rq HO_3) hb); have n1_ := ak (Kd.R_below (rq HO_20) hb); have n2_ := ak (Kd.R_below (rq HO_24) hb); have n3_ := ak (Kd.R_below (rq HO_30) hb); have n4_ := ak (blk_below (g := gb610) (o := .cells #[.int .i64 t605, .int .i64 t606] 49 (0, 0)) (uq BK610) hb); have n5_ := ak (blk_below (g := gb611) (o := .cells #[.int .i64 t607, .int .i64 t608] 49 (0, 0)) (uq BK611) hb); have n6_ := ak (blk_below (g := gb617) (o := .cells #[.int .i64 t612, .int .i64 t613] 49 (0, 0)) (uq BK617) hb); have n7_ := ak (blk_below (g := gb618) (o := .cells #[.int .i64 t614, .int .i64 t615] 49 (0, 0)) (uq BK618) hb); have n8_ := ak (below_step bs hb); clear HO_3; clear HO_20; clear HO_24; clear HO_30; clear BK610; clear BK611; clear BK617; clear BK618; clear HB; have HO_3 := n0_; have HO_20 := n1_; have HO_24 := n2_; have HO_30 := n3_; have BK610 := n4_; have BK611 := n5_; have BK617 := n6_; have BK618 := n7_; have HB := n8_; clear n0_ n1_ n2_ n3_ n4_ n5_ n6_ n7_ n8_; (try clear hb)) | ((with_reducible refine gate_callee (f := 43) rfl ?_); refine goesL_ (some 334) rfl rfl Try.func43 (by kernel_rfl) rfl #[.slice Ao78 t625.length co78] rfl aq ?_; (with_reducible refine (impl_MirrorBody.calls kj117 _ _ t625 t689 true _ ?side1 ?side2 A146.out).mono ?_); (case side1 => exact cq (Kd.R_reads' HO_20.out).2.2); (case side2 => exact (Kd.R_reads' HO_20.out).2.1); rintro e w153 ⟨v691, rfl, ho0, hb⟩; refine ⟨_, rfl, ?_⟩; have n0_ := ak (Kd.R_elder' (rq HO_3) (Kd.R_base ho0) hb); have n1_ := ak (Kd.R_elder' (rq HO_20) (Kd.R_base ho0) hb); have n2_ := ak (Kd.R_elder' (rq HO_24) (Kd.R_base ho0) hb); have n3_ := ak (Kd.R_below (rq HO_30) hb); have n4_ := ak (Kd.R_lower (Kd.R_newB (Kd.R_newB (Kd.R_newB (Kd.R_newB (Kd.R_new' (Kd.R_new' (Kd.R_new' ho0 (Kd.R_lt (rq HO_3))) (Kd.R_lt (rq HO_20))) (Kd.R_lt (rq HO_24))) (g := gb610) (o := .cells #[.int .i64 t605, .int .i64 t606] 49 (0, 0)) (uq BK610)) (g := gb611) (o := .cells #[.int .i64 t607, .int .i64 t608] 49 (0, 0)) (uq BK611)) (g := gb617) (o := .cells #[.int .i64 t612, .int .i64 t613] 49 (0, 0)) (uq BK617)) (g := gb618) (o := .cells #[.int .i64 t614, .int .i64 t615] 49 (0, 0)) (uq BK618)) (below_size bs)); have n5_ := ak (blk_below (g := gb610) (o := .cells #[.int .i64 t605, .int .i64 t606] 49 (0, 0)) (uq BK610) hb); have n6_ := ak (blk_below (g := gb611) (o := .cells #[.int .i64 t607, .int .i64 t608] 49 (0, 0)) (uq BK611) hb); have n7_ := ak (blk_below (g := gb617) (o := .cells #[.int .i64 t612, .int .i64 t613] 49 (0, 0)) (uq BK617) hb); have n8_ := ak (blk_below (g := gb618) (o := .cells #[.int .i64 t614, .int .i64 t615] 49 (0, 0)) (uq BK618) hb); have n9_ := ak (below_step bs hb); clear HO_3; clear HO_20; clear HO_24; clear HO_30; clear BK610; clear BK611; clear BK617; clear BK618; clear HB; have HO_3 := n0_; have HO_20 := n1_; have HO_24 := n2_; have HO_30 := n3_; have HO692 := n4_; have BK610 := n5_; have BK611 := n6_; have BK617 := n7_; have BK618 := n8_; have HB := n9_; clear n0_ n1_ n2_ n3_ n4_ n5_ n6_ n7_ n8_ n9_; (try clear hb); (try clear ho0); obtain ⟨Ao154, co154, eo154⟩ := Kd.R_slice HO692.out; subst eo154) | (go_at_call 33; (with_reducible refine (laws_rCells.calls kj117 _ _ t689 _ _ t597 true _ ?side1 ?side2 ?side3 ?side4 A150.out).mono ?_); (case side1 => exact cq (Kd.R_reads' HO692.out).2.2); (case side2 => exact (Kd.R_reads' HO692.out).2.1); (case side3 => exact cq (Kd.R_reads' HO_3.out).2.2); (case side4 => exact (Kd.R_reads' HO_3.out).2.1); rintro e w' ⟨rfl, ⟨nd, rfl⟩⟩))
                                         go_loopg [51, 52, 53] kj117 (fun kq v51 v52 v53 w' => ∃ (x51_4 : List (S49)) (x52_4 : Bool) (x53_4 : Int), v52 = .bool x52_4 ∧ v53 = .int .i64 x53_4 ∧ Aside0 (laws_FnBodies.l0 kq t597 t600 t634 t635 t636 t645 x51_4 x52_4 x53_4 = some r) ∧ Aside0 (kq ≤ kj117) ∧ Aside0 (Kd.R k49 49 w' w.heap.size (fun k_ => some k_ ≠ ((.slice Ao82 t634.length co82) : Value).ownBlock ∧ k_ ≠ gb610 ∧ k_ ≠ gb611 ∧ k_ ≠ gb617 ∧ k_ ≠ gb618) (.slice Ao52 t597.length co52) t597) ∧ Aside0 (Kd.R k49 49 w' w.heap.size (fun k_ => some k_ ≠ ((.slice Ao52 t597.length co52) : Value).ownBlock ∧ some k_ ≠ (v51 : Value).ownBlock ∧ k_ ≠ gb610 ∧ k_ ≠ gb611 ∧ k_ ≠ gb617 ∧ k_ ≠ gb618) (.slice Ao82 t634.length co82) t634) ∧ Aside0 (Kd.R (Kd.int .i64) 3 w' w.heap.size (fun _ => True) (.slice Ao86 t645.length co86) t645) ∧ Aside0 (Kd.R k49 49 w' w.heap.size (fun k_ => some k_ ≠ ((.slice Ao82 t634.length co82) : Value).ownBlock ∧ k_ ≠ gb610 ∧ k_ ≠ gb611 ∧ k_ ≠ gb617 ∧ k_ ≠ gb618) v51 x51_4) ∧ Aside0 (w'.heap[gb610]? = some (.cells #[.int .i64 t605, .int .i64 t606] 49 (0, 0))) ∧ Aside0 (w'.heap[gb611]? = some (.cells #[.int .i64 t607, .int .i64 t608] 49 (0, 0))) ∧ Aside0 (w'.heap[gb617]? = some (.cells #[.int .i64 t612, .int .i64 t613] 49 (0, 0))) ∧ Aside0 (w'.heap[gb618]? = some (.cells #[.int .i64 t614, .int .i64 t615] 49 (0, 0))) ∧ Aside0 (Below w.heap.size w w'))
                                         case atStart => exact ⟨(t597), (false), (0), sq, sq, H', ⟨Nat.le_refl _⟩, ⟨by (with_reducible repeat (apply Kd.R_drewN)); exact rm_ HO_3.out⟩, ⟨by (with_reducible repeat (apply Kd.R_drewN)); exact rm_ HO_24.out⟩, ⟨rq HO_30⟩, ⟨by (with_reducible repeat (apply Kd.R_drewN)); exact rm_ HO_3.out⟩, ⟨by (with_reducible repeat (refine blk_drewN ?_ _)); exact BK610.out⟩, ⟨by (with_reducible repeat (refine blk_drewN ?_ _)); exact BK611.out⟩, ⟨by (with_reducible repeat (refine blk_drewN ?_ _)); exact BK617.out⟩, ⟨by (with_reducible repeat (refine blk_drewN ?_ _)); exact BK618.out⟩, ⟨bs⟩⟩
                                         case round =>
                                          clear H'; (try clear c149b0); (try clear c149b1)
                                          obtain ⟨x51_4, x52_4, x53_4, rfl, rfl, HA, HK4, HO_3, HO_24, HO_30, HO_51, BK610, BK611, BK617, BK618, HB⟩ := hrel
                                          cases gk with
                                          | zero => exact absurd HA.out (by simp [laws_FnBodies.l0])
                                          | succ k4 =>
                                           have H := HA.out; clear HA; simp only [laws_FnBodies.l0] at H
                                           by_cases c155 : x53_4 < 4
                                           ·rw [if_pos c155] at H
                                            have c155b0 := decide_eq_true c155; clear c155; obtain ⟨⟨t695, t696⟩, A1560, H⟩ := Option.bind_eq_some_iff.mp H
                                            (try dsimp only at H)
                                            have A156 := ak A1560; clear A1560
                                            by_cases c157 : t696 = true
                                            ·subst c157
                                             rw [if_pos rfl] at H; obtain ⟨t697, A1580, H⟩ := Option.bind_eq_some_iff.mp H
                                             have A158 := ak A1580; clear A1580
                                             by_cases c159 : (t697 != (t695 == 0)) = true
                                             ·rw [if_pos c159] at H
                                              exact absurd H (by simp)
                                             ·rw [if_neg c159] at H
                                              have c159b0 : (t697 != (t695 == 0)) = false := by simpa using c159
                                              (try (have c159b1 : decide (t697 = (t695 == 0)) = true := by simpa using c159))
                                              (try (have c159b2 : (t697 == (t695 == 0)) = true := by simpa using c159))
                                              clear c159
                                              by_cases c160 : x52_4 = true
                                              ·subst c160
                                               rw [if_pos rfl] at H; obtain ⟨⟨t698, t699⟩, A1610, H⟩ := Option.bind_eq_some_iff.mp H
                                               (try dsimp only at H)
                                               have A161 := ak A1610; clear A1610
                                               by_cases c162 : t699 = true
                                               ·subst c162
                                                rw [if_pos rfl] at H; have H' := ak H; clear H; obtain ⟨Ao163, co163, eo163⟩ := Kd.R_slice HO_51.out; subst eo163
                                                as_aux_lemma =>
                                                 go_wp2_with (first | ((with_reducible refine gate_callee (f := 36) rfl ?_); refine goesL_ (some 362) rfl rfl Try.func36 (by kernel_rfl) rfl #[.slice Ao163 x51_4.length co163] rfl aq ?_; (with_reducible refine (impl_BodySide.calls k4 _ _ x51_4 t695 true _ ?side1 ?side2 A156.out).mono ?_); (case side1 => exact cq (Kd.R_reads' HO_51.out).2.2); (case side2 => exact (Kd.R_reads' HO_51.out).2.1); rintro e w164 ⟨rfl, hb⟩; refine ⟨_, rfl, ?_⟩; have n0_ := ak (Kd.R_below (rq HO_3) hb); have n1_ := ak (Kd.R_below (rq HO_24) hb); have n2_ := ak (Kd.R_below (rq HO_30) hb); have n3_ := ak (Kd.R_below (rq HO_51) hb); have n4_ := ak (blk_below (g := gb610) (o := .cells #[.int .i64 t605, .int .i64 t606] 49 (0, 0)) (uq BK610) hb); have n5_ := ak (blk_below (g := gb611) (o := .cells #[.int .i64 t607, .int .i64 t608] 49 (0, 0)) (uq BK611) hb); have n6_ := ak (blk_below (g := gb617) (o := .cells #[.int .i64 t612, .int .i64 t613] 49 (0, 0)) (uq BK617) hb); have n7_ := ak (blk_below (g := gb618) (o := .cells #[.int .i64 t614, .int .i64 t615] 49 (0, 0)) (uq BK618) hb); have n8_ := ak (below_step bs hb); clear HO_3; clear HO_24; clear HO_30; clear HO_51; clear BK610; clear BK611; clear BK617; clear BK618; clear HB; have HO_3 := n0_; have HO_24 := n1_; have HO_30 := n2_; have HO_51 := n3_; have BK610 := n4_; have BK611 := n5_; have BK617 := n6_; have BK618 := n7_; have HB := n8_; clear n0_ n1_ n2_ n3_ n4_ n5_ n6_ n7_ n8_; (try clear hb)) | (go_at_call 54; (with_reducible refine (laws_rHas.calls k4 _ _ t645 x53_4 t697 _ ?side1 ?side2 A158.out).mono ?_); (case side1 => exact cq (Kd.R_reads' HO_30.out).2.2); (case side2 => exact (Kd.R_reads' HO_30.out).2.1); rintro e w' ⟨rfl, ⟨nd, rfl⟩⟩) | ((with_reducible refine gate_callee (f := 49) rfl ?_); refine goesL_ (some 386) rfl rfl Try.func49 (by kernel_rfl) rfl #[.slice Ao163 x51_4.length co163, .int .i64 1] rfl aq ?_; (with_reducible refine (impl_TurnBody.calls k4 _ _ x51_4 1 t698 true _ ?side1 ?side2 A161.out).mono ?_); (case side1 => exact cq (Kd.R_reads' HO_51.out).2.2); (case side2 => exact (Kd.R_reads' HO_51.out).2.1); rintro e w165 ⟨v700, rfl, ho0, hb⟩; refine ⟨_, rfl, ?_⟩; have n0_ := ak (Kd.R_elder' (rq HO_3) (Kd.R_base ho0) hb); have n1_ := ak (Kd.R_elder' (rq HO_24) (Kd.R_base ho0) hb); have n2_ := ak (Kd.R_below (rq HO_30) hb); have n3_ := ak (Kd.R_elder' (rq HO_51) (Kd.R_base ho0) hb); have n4_ := ak (Kd.R_lower (Kd.R_newB (Kd.R_newB (Kd.R_newB (Kd.R_newB (Kd.R_new' (Kd.R_new' (Kd.R_new' ho0 (Kd.R_lt (rq HO_3))) (Kd.R_lt (rq HO_24))) (Kd.R_lt (rq HO_51))) (g := gb610) (o := .cells #[.int .i64 t605, .int .i64 t606] 49 (0, 0)) (uq BK610)) (g := gb611) (o := .cells #[.int .i64 t607, .int .i64 t608] 49 (0, 0)) (uq BK611)) (g := gb617) (o := .cells #[.int .i64 t612, .int .i64 t613] 49 (0, 0)) (uq BK617)) (g := gb618) (o := .cells #[.int .i64 t614, .int .i64 t615] 49 (0, 0)) (uq BK618)) (below_size bs)); have n5_ := ak (blk_below (g := gb610) (o := .cells #[.int .i64 t605, .int .i64 t606] 49 (0, 0)) (uq BK610) hb); have n6_ := ak (blk_below (g := gb611) (o := .cells #[.int .i64 t607, .int .i64 t608] 49 (0, 0)) (uq BK611) hb); have n7_ := ak (blk_below (g := gb617) (o := .cells #[.int .i64 t612, .int .i64 t613] 49 (0, 0)) (uq BK617) hb); have n8_ := ak (blk_below (g := gb618) (o := .cells #[.int .i64 t614, .int .i64 t615] 49 (0, 0)) (uq BK618) hb); have n9_ := ak (below_step bs hb); clear HO_3; clear HO_24; clear HO_30; clear HO_51; clear BK610; clear BK611; clear BK617; clear BK618; clear HB; have HO_3 := n0_; have HO_24 := n1_; have HO_30 := n2_; have HO_51 := n3_; have HO701 := n4_; have BK610 := n5_; have BK611 := n6_; have BK617 := n7_; have BK618 := n8_; have HB := n9_; clear n0_ n1_ n2_ n3_ n4_ n5_ n6_ n7_ n8_ n9_; (try clear hb); (try clear ho0)))
                                                 as_aux_lemma =>
                                                  go_roundg k4
                                                  case measure => have := HJ49.out; have := HJ108.out; have := HJ117.out; have := HK4.out; omega
                                                  case rel => exact ⟨(t698), (true), (wrap64 (x53_4 + 1)), sq, sq, H', ⟨by have := HJ49.out; have := HJ108.out; have := HJ117.out; have := HK4.out; omega⟩, ⟨by exact rm_ HO_3.out⟩, ⟨by exact rm_ HO_24.out⟩, ⟨rq HO_30⟩, ⟨by exact rm_ HO701.out⟩, ⟨by exact BK610.out⟩, ⟨by exact BK611.out⟩, ⟨by exact BK617.out⟩, ⟨by exact BK618.out⟩, ⟨bs⟩⟩
                                               ·replace c162 := Bool.eq_false_iff.mpr c162
                                                subst c162; rw [if_neg (show ¬ (false = true) by decide)] at H; exact absurd H (by simp)
                                              ·replace c160 := Bool.eq_false_iff.mpr c160
                                               subst c160; rw [if_neg (show ¬ (false = true) by decide)] at H
                                               by_cases c166 : t636 = true
                                               ·subst c166
                                                rw [if_pos rfl] at H; obtain ⟨t702, A1670, H⟩ := Option.bind_eq_some_iff.mp H
                                                have A167 := ak A1670; clear A1670; obtain ⟨⟨t703, t704⟩, A1680, H⟩ := Option.bind_eq_some_iff.mp H
                                                (try dsimp only at H)
                                                have A168 := ak A1680; clear A1680
                                                by_cases c169 : t704 = true
                                                ·subst c169
                                                 rw [if_pos rfl] at H; have H' := ak H; clear H; obtain ⟨Ao170, co170, eo170⟩ := Kd.R_slice HO_51.out; subst eo170
                                                 as_aux_lemma =>
                                                  go_wp2_with (first | ((with_reducible refine gate_callee (f := 36) rfl ?_); refine goesL_ (some 362) rfl rfl Try.func36 (by kernel_rfl) rfl #[.slice Ao170 x51_4.length co170] rfl aq ?_; (with_reducible refine (impl_BodySide.calls k4 _ _ x51_4 t695 true _ ?side1 ?side2 A156.out).mono ?_); (case side1 => exact cq (Kd.R_reads' HO_51.out).2.2); (case side2 => exact (Kd.R_reads' HO_51.out).2.1); rintro e w171 ⟨rfl, hb⟩; refine ⟨_, rfl, ?_⟩; have n0_ := ak (Kd.R_below (rq HO_3) hb); have n1_ := ak (Kd.R_below (rq HO_24) hb); have n2_ := ak (Kd.R_below (rq HO_30) hb); have n3_ := ak (Kd.R_below (rq HO_51) hb); have n4_ := ak (blk_below (g := gb610) (o := .cells #[.int .i64 t605, .int .i64 t606] 49 (0, 0)) (uq BK610) hb); have n5_ := ak (blk_below (g := gb611) (o := .cells #[.int .i64 t607, .int .i64 t608] 49 (0, 0)) (uq BK611) hb); have n6_ := ak (blk_below (g := gb617) (o := .cells #[.int .i64 t612, .int .i64 t613] 49 (0, 0)) (uq BK617) hb); have n7_ := ak (blk_below (g := gb618) (o := .cells #[.int .i64 t614, .int .i64 t615] 49 (0, 0)) (uq BK618) hb); have n8_ := ak (below_step bs hb); clear HO_3; clear HO_24; clear HO_30; clear HO_51; clear BK610; clear BK611; clear BK617; clear BK618; clear HB; have HO_3 := n0_; have HO_24 := n1_; have HO_30 := n2_; have HO_51 := n3_; have BK610 := n4_; have BK611 := n5_; have BK617 := n6_; have BK618 := n7_; have HB := n8_; clear n0_ n1_ n2_ n3_ n4_ n5_ n6_ n7_ n8_; (try clear hb)) | (go_at_call 54; (with_reducible refine (laws_rHas.calls k4 _ _ t645 x53_4 t697 _ ?side1 ?side2 A158.out).mono ?_); (case side1 => exact cq (Kd.R_reads' HO_30.out).2.2); (case side2 => exact (Kd.R_reads' HO_30.out).2.1); rintro e w' ⟨rfl, ⟨nd, rfl⟩⟩) | (go_at_call 33; (with_reducible refine (laws_rCells.calls k4 _ _ x51_4 _ _ t634 t702 _ ?side1 ?side2 ?side3 ?side4 A167.out).mono ?_); (case side1 => exact cq (Kd.R_reads' HO_51.out).2.2); (case side2 => exact (Kd.R_reads' HO_51.out).2.1); (case side3 => exact cq (Kd.R_reads' HO_24.out).2.2); (case side4 => exact (Kd.R_reads' HO_24.out).2.1); rintro e w' ⟨rfl, ⟨nd, rfl⟩⟩) | ((with_reducible refine gate_callee (f := 49) rfl ?_); refine goesL_ (some 386) rfl rfl Try.func49 (by kernel_rfl) rfl #[.slice Ao170 x51_4.length co170, .int .i64 1] rfl aq ?_; (with_reducible refine (impl_TurnBody.calls k4 _ _ x51_4 1 t703 true _ ?side1 ?side2 A168.out).mono ?_); (case side1 => exact cq (Kd.R_reads' HO_51.out).2.2); (case side2 => exact (Kd.R_reads' HO_51.out).2.1); rintro e w172 ⟨v705, rfl, ho0, hb⟩; refine ⟨_, rfl, ?_⟩; have n0_ := ak (Kd.R_elder' (rq HO_3) (Kd.R_base ho0) hb); have n1_ := ak (Kd.R_elder' (rq HO_24) (Kd.R_base ho0) hb); have n2_ := ak (Kd.R_below (rq HO_30) hb); have n3_ := ak (Kd.R_elder' (rq HO_51) (Kd.R_base ho0) hb); have n4_ := ak (Kd.R_lower (Kd.R_newB (Kd.R_newB (Kd.R_newB (Kd.R_newB (Kd.R_new' (Kd.R_new' (Kd.R_new' ho0 (Kd.R_lt (rq HO_3))) (Kd.R_lt (rq HO_24))) (Kd.R_lt (rq HO_51))) (g := gb610) (o := .cells #[.int .i64 t605, .int .i64 t606] 49 (0, 0)) (uq BK610)) (g := gb611) (o := .cells #[.int .i64 t607, .int .i64 t608] 49 (0, 0)) (uq BK611)) (g := gb617) (o := .cells #[.int .i64 t612, .int .i64 t613] 49 (0, 0)) (uq BK617)) (g := gb618) (o := .cells #[.int .i64 t614, .int .i64 t615] 49 (0, 0)) (uq BK618)) (below_size bs)); have n5_ := ak (blk_below (g := gb610) (o := .cells #[.int .i64 t605, .int .i64 t606] 49 (0, 0)) (uq BK610) hb); have n6_ := ak (blk_below (g := gb611) (o := .cells #[.int .i64 t607, .int .i64 t608] 49 (0, 0)) (uq BK611) hb); have n7_ := ak (blk_below (g := gb617) (o := .cells #[.int .i64 t612, .int .i64 t613] 49 (0, 0)) (uq BK617) hb); have n8_ := ak (blk_below (g := gb618) (o := .cells #[.int .i64 t614, .int .i64 t615] 49 (0, 0)) (uq BK618) hb); have n9_ := ak (below_step bs hb); clear HO_3; clear HO_24; clear HO_30; clear HO_51; clear BK610; clear BK611; clear BK617; clear BK618; clear HB; have HO_3 := n0_; have HO_24 := n1_; have HO_30 := n2_; have HO_51 := n3_; have HO706 := n4_; have BK610 := n5_; have BK611 := n6_; have BK617 := n7_; have BK618 := n8_; have HB := n9_; clear n0_ n1_ n2_ n3_ n4_ n5_ n6_ n7_ n8_ n9_; (try clear hb); (try clear ho0)))
                                                  as_aux_lemma =>
                                                   go_roundg k4
                                                   case measure => have := HJ49.out; have := HJ108.out; have := HJ117.out; have := HK4.out; omega
                                                   case rel => exact ⟨(t703), (t702), (wrap64 (x53_4 + 1)), sq, sq, H', ⟨by have := HJ49.out; have := HJ108.out; have := HJ117.out; have := HK4.out; omega⟩, ⟨by exact rm_ HO_3.out⟩, ⟨by exact rm_ HO_24.out⟩, ⟨rq HO_30⟩, ⟨by exact rm_ HO706.out⟩, ⟨by exact BK610.out⟩, ⟨by exact BK611.out⟩, ⟨by exact BK617.out⟩, ⟨by exact BK618.out⟩, ⟨bs⟩⟩
                                                ·replace c169 := Bool.eq_false_iff.mpr c169
                                                 subst c169; rw [if_neg (show ¬ (false = true) by decide)] at H; exact absurd H (by simp)
                                               ·replace c166 := Bool.eq_false_iff.mpr c166
                                                subst c166; rw [if_neg (show ¬ (false = true) by decide)] at H; obtain ⟨⟨t707, t708⟩, A1730, H⟩ := Option.bind_eq_some_iff.mp H
                                                (try dsimp only at H)
                                                have A173 := ak A1730; clear A1730
                                                by_cases c174 : t708 = true
                                                ·subst c174
                                                 rw [if_pos rfl] at H; have H' := ak H; clear H; obtain ⟨Ao175, co175, eo175⟩ := Kd.R_slice HO_51.out; subst eo175
                                                 as_aux_lemma =>
                                                  go_wp2_with (first | ((with_reducible refine gate_callee (f := 36) rfl ?_); refine goesL_ (some 362) rfl rfl Try.func36 (by kernel_rfl) rfl #[.slice Ao175 x51_4.length co175] rfl aq ?_; (with_reducible refine (impl_BodySide.calls k4 _ _ x51_4 t695 true _ ?side1 ?side2 A156.out).mono ?_); (case side1 => exact cq (Kd.R_reads' HO_51.out).2.2); (case side2 => exact (Kd.R_reads' HO_51.out).2.1); rintro e w176 ⟨rfl, hb⟩; refine ⟨_, rfl, ?_⟩; have n0_ := ak (Kd.R_below (rq HO_3) hb); have n1_ := ak (Kd.R_below (rq HO_24) hb); have n2_ := ak (Kd.R_below (rq HO_30) hb); have n3_ := ak (Kd.R_below (rq HO_51) hb); have n4_ := ak (blk_below (g := gb610) (o := .cells #[.int .i64 t605, .int .i64 t606] 49 (0, 0)) (uq BK610) hb); have n5_ := ak (blk_below (g := gb611) (o := .cells #[.int .i64 t607, .int .i64 t608] 49 (0, 0)) (uq BK611) hb); have n6_ := ak (blk_below (g := gb617) (o := .cells #[.int .i64 t612, .int .i64 t613] 49 (0, 0)) (uq BK617) hb); have n7_ := ak (blk_below (g := gb618) (o := .cells #[.int .i64 t614, .int .i64 t615] 49 (0, 0)) (uq BK618) hb); have n8_ := ak (below_step bs hb); clear HO_3; clear HO_24; clear HO_30; clear HO_51; clear BK610; clear BK611; clear BK617; clear BK618; clear HB; have HO_3 := n0_; have HO_24 := n1_; have HO_30 := n2_; have HO_51 := n3_; have BK610 := n4_; have BK611 := n5_; have BK617 := n6_; have BK618 := n7_; have HB := n8_; clear n0_ n1_ n2_ n3_ n4_ n5_ n6_ n7_ n8_; (try clear hb)) | (go_at_call 54; (with_reducible refine (laws_rHas.calls k4 _ _ t645 x53_4 t697 _ ?side1 ?side2 A158.out).mono ?_); (case side1 => exact cq (Kd.R_reads' HO_30.out).2.2); (case side2 => exact (Kd.R_reads' HO_30.out).2.1); rintro e w' ⟨rfl, ⟨nd, rfl⟩⟩) | ((with_reducible refine gate_callee (f := 49) rfl ?_); refine goesL_ (some 386) rfl rfl Try.func49 (by kernel_rfl) rfl #[.slice Ao175 x51_4.length co175, .int .i64 1] rfl aq ?_; (with_reducible refine (impl_TurnBody.calls k4 _ _ x51_4 1 t707 true _ ?side1 ?side2 A173.out).mono ?_); (case side1 => exact cq (Kd.R_reads' HO_51.out).2.2); (case side2 => exact (Kd.R_reads' HO_51.out).2.1); rintro e w177 ⟨v709, rfl, ho0, hb⟩; refine ⟨_, rfl, ?_⟩; have n0_ := ak (Kd.R_elder' (rq HO_3) (Kd.R_base ho0) hb); have n1_ := ak (Kd.R_elder' (rq HO_24) (Kd.R_base ho0) hb); have n2_ := ak (Kd.R_below (rq HO_30) hb); have n3_ := ak (Kd.R_elder' (rq HO_51) (Kd.R_base ho0) hb); have n4_ := ak (Kd.R_lower (Kd.R_newB (Kd.R_newB (Kd.R_newB (Kd.R_newB (Kd.R_new' (Kd.R_new' (Kd.R_new' ho0 (Kd.R_lt (rq HO_3))) (Kd.R_lt (rq HO_24))) (Kd.R_lt (rq HO_51))) (g := gb610) (o := .cells #[.int .i64 t605, .int .i64 t606] 49 (0, 0)) (uq BK610)) (g := gb611) (o := .cells #[.int .i64 t607, .int .i64 t608] 49 (0, 0)) (uq BK611)) (g := gb617) (o := .cells #[.int .i64 t612, .int .i64 t613] 49 (0, 0)) (uq BK617)) (g := gb618) (o := .cells #[.int .i64 t614, .int .i64 t615] 49 (0, 0)) (uq BK618)) (below_size bs)); have n5_ := ak (blk_below (g := gb610) (o := .cells #[.int .i64 t605, .int .i64 t606] 49 (0, 0)) (uq BK610) hb); have n6_ := ak (blk_below (g := gb611) (o := .cells #[.int .i64 t607, .int .i64 t608] 49 (0, 0)) (uq BK611) hb); have n7_ := ak (blk_below (g := gb617) (o := .cells #[.int .i64 t612, .int .i64 t613] 49 (0, 0)) (uq BK617) hb); have n8_ := ak (blk_below (g := gb618) (o := .cells #[.int .i64 t614, .int .i64 t615] 49 (0, 0)) (uq BK618) hb); have n9_ := ak (below_step bs hb); clear HO_3; clear HO_24; clear HO_30; clear HO_51; clear BK610; clear BK611; clear BK617; clear BK618; clear HB; have HO_3 := n0_; have HO_24 := n1_; have HO_30 := n2_; have HO_51 := n3_; have HO710 := n4_; have BK610 := n5_; have BK611 := n6_; have BK617 := n7_; have BK618 := n8_; have HB := n9_; clear n0_ n1_ n2_ n3_ n4_ n5_ n6_ n7_ n8_ n9_; (try clear hb); (try clear ho0)))
                                                  as_aux_lemma =>
                                                   go_roundg k4
                                                   case measure => have := HJ49.out; have := HJ108.out; have := HJ117.out; have := HK4.out; omega
                                                   case rel => exact ⟨(t707), (false), (wrap64 (x53_4 + 1)), sq, sq, H', ⟨by have := HJ49.out; have := HJ108.out; have := HJ117.out; have := HK4.out; omega⟩, ⟨by exact rm_ HO_3.out⟩, ⟨by exact rm_ HO_24.out⟩, ⟨rq HO_30⟩, ⟨by exact rm_ HO710.out⟩, ⟨by exact BK610.out⟩, ⟨by exact BK611.out⟩, ⟨by exact BK617.out⟩, ⟨by exact BK618.out⟩, ⟨bs⟩⟩
                                                ·replace c174 := Bool.eq_false_iff.mpr c174
                                                 subst c174; rw [if_neg (show ¬ (false = true) by decide)] at H; exact absurd H (by simp)
                                            ·replace c157 := Bool.eq_false_iff.mpr c157
                                             subst c157; rw [if_neg (show ¬ (false = true) by decide)] at H; exact absurd H (by simp)
                                           ·rw [if_neg c155] at H
                                            have c155b0 := decide_eq_false c155; clear c155; obtain ⟨t694, A1780, H⟩ := Option.bind_eq_some_iff.mp H
                                            have A178 := ak A1780; clear A1780
                                            by_cases c179 : t694 = true
                                            ·subst c179
                                             rw [if_pos rfl] at H
                                             by_cases c180 : (x52_4 == t636) = true
                                             ·rw [if_pos c180] at H
                                              have c180b0 : (x52_4 == t636) = true := c180
                                              (try (have c180b1 : decide (x52_4 = t636) = true := by simpa using c180))
                                              (try (have c180b2 : (x52_4 == t636) = true := by simpa using c180))
                                              clear c180
                                              by_cases c181 : t600 = 0
                                              ·rw [if_pos c181] at H
                                               have c181b0 : (t600 == 0) = true := beq_iff_eq.mpr c181; have c181b1 : (t600 != 0) = false := bne_eq_false_iff_eq.mpr c181; clear c181
                                               by_cases c182 : t636 = true
                                               ·subst c182
                                                rw [if_pos rfl] at H; obtain rfl := Option.some.inj H; obtain ⟨Ao183, co183, eo183⟩ := Kd.R_slice HO_51.out; subst eo183
                                                as_aux_lemma =>
                                                 go_wp2_with (((with_reducible refine gate_callee (f := 33) rfl ?_); refine goesL_ (some 394) rfl rfl Try.func33 (by kernel_rfl) rfl #[.slice Ao183 x51_4.length co183, .slice Ao52 t597.length co52] rfl aq ?_; (with_reducible refine (laws_rCells.calls k4 _ _ x51_4 _ _ t597 true _ ?side1 ?side2 ?side3 ?side4 A178.out).mono ?_); (case side1 => exact cq (Kd.R_reads' HO_51.out).2.2); (case side2 => exact (Kd.R_reads' HO_51.out).2.1); (case side3 => exact cq (Kd.R_reads' HO_3.out).2.2); (case side4 => exact (Kd.R_reads' HO_3.out).2.1); rintro e w' ⟨rfl, ⟨nd, rfl⟩⟩; refine ⟨_, rfl, ?_⟩))
                                                 go_ret; exact ⟨eq_, bs⟩
                                               ·replace c182 := Bool.eq_false_iff.mpr c182
                                                subst c182; rw [if_neg (show ¬ (false = true) by decide)] at H; exact absurd H (by simp)
                                              ·rw [if_neg c181] at H
                                               have c181b0 : (t600 == 0) = false := beq_eq_false_iff_ne.mpr c181; have c181b1 : (t600 != 0) = true := bne_iff_ne.mpr c181; obtain rfl := Option.some.inj H; obtain ⟨Ao184, co184, eo184⟩ := Kd.R_slice HO_51.out; subst eo184
                                               as_aux_lemma =>
                                                go_wp2_with (((with_reducible refine gate_callee (f := 33) rfl ?_); refine goesL_ (some 394) rfl rfl Try.func33 (by kernel_rfl) rfl #[.slice Ao184 x51_4.length co184, .slice Ao52 t597.length co52] rfl aq ?_; (with_reducible refine (laws_rCells.calls k4 _ _ x51_4 _ _ t597 true _ ?side1 ?side2 ?side3 ?side4 A178.out).mono ?_); (case side1 => exact cq (Kd.R_reads' HO_51.out).2.2); (case side2 => exact (Kd.R_reads' HO_51.out).2.1); (case side3 => exact cq (Kd.R_reads' HO_3.out).2.2); (case side4 => exact (Kd.R_reads' HO_3.out).2.1); rintro e w' ⟨rfl, ⟨nd, rfl⟩⟩; refine ⟨_, rfl, ?_⟩))
                                                go_ret; exact ⟨eq_, bs⟩
                                             ·rw [if_neg c180] at H
                                              exact absurd H (by simp)
                                            ·replace c179 := Bool.eq_false_iff.mpr c179
                                             subst c179; rw [if_neg (show ¬ (false = true) by decide)] at H; exact absurd H (by simp)
                                       ·replace c151 := Bool.eq_false_iff.mpr c151
                                        subst c151; rw [if_neg (show ¬ (false = true) by decide)] at H; exact absurd H (by simp)
                                      ·rw [if_neg c149] at H
                                       exact absurd H (by simp)
                                     ·replace c148 := Bool.eq_false_iff.mpr c148
                                      subst c148; rw [if_neg (show ¬ (false = true) by decide)] at H; exact absurd H (by simp)
                                    ·replace c147 := Bool.eq_false_iff.mpr c147
                                     subst c147; rw [if_neg (show ¬ (false = true) by decide)] at H; exact absurd H (by simp)
                               ·replace c117 := Bool.eq_false_iff.mpr c117
                                subst c117; rw [if_neg (show ¬ (false = true) by decide)] at H; obtain rfl := Option.some.inj H; go_wp2; go_ret; exact ⟨eq_, bs⟩
                       ·replace c46 := Bool.eq_false_iff.mpr c46
                        subst c46; rw [if_neg (show ¬ (false = true) by decide)] at H; exact absurd H (by simp)
                     ·replace c40 := Bool.eq_false_iff.mpr c40
                      subst c40; rw [if_neg (show ¬ (false = true) by decide)] at H; exact absurd H (by simp)
                  ·replace c34 := Bool.eq_false_iff.mpr c34
                   subst c34; rw [if_neg (show ¬ (false = true) by decide)] at H; exact absurd H (by simp)
                ·rw [if_neg c31] at H
                 exact absurd H (by simp)
               ·replace c28 := Bool.eq_false_iff.mpr c28
                subst c28; rw [if_neg (show ¬ (false = true) by decide)] at H; exact absurd H (by simp)
          ·rw [if_neg c20] at H
           exact absurd H (by simp)
         ·rw [if_neg c19] at H
          exact absurd H (by simp)
  ·rw [if_neg c7] at H
   exact absurd H (by simp)

/-- THE ONE PURE STATEMENT of laws_FnBodies: yours. -/
def laws_FnBodies.Pure : Prop := ∀ (l0 : List Int), l0.length ≤ maxLen → l0.length * 1 ≤ 140737488351232 → (∀ x ∈ l0, (Lit.int .u8 x).wf = true) → ∃ k, laws_FnBodies.f k l0 = some true
theorem laws_FnBodies.walk (P : laws_FnBodies.Pure) (a0 : Option Addr) (len0 cap0 : Nat) (z0 : List Int) (w : World) (w0 : (a0 = none ∧ len0 = 0 ∧ cap0 = 0 ∧ z0 = []) ∨ ∃ x, a0 = some x ∧ len0 ≤ cap0 ∧ cap0 ≤ maxLen ∧ z0.length = cap0 ∧ (∀ i, i < z0.length → w.cell? (x.add i) = some (.int .u8 (z0.getD i 0))) ∧ ∀ n ∈ z0, (Lit.int .u8 n).wf = true) (y0 : len0 * 1 ≤ 140737488351232) :
  Calls Try.prog 10 #[.slice a0 len0 cap0] w fun e w' => e = .returned (.bool true) ∧ Below w.heap.size w w' := by
 obtain ⟨l0, rfl, hr0, hm0, hw0, hc0⟩ := ReadsInt.ofRowC w0; obtain ⟨k, h⟩ := P l0 hm0 y0 hw0; refine (laws_FnBodies.calls k _ _ l0 true w (Kd.C_of_reads (d := (0 : Int)) (h1 := fun _ => rfl) hr0) hc0 h).mono ?_
 rintro e w' ⟨rfl, hd⟩
 exact ⟨rfl, hd⟩

end Go.Proofs.Ytckhmeadflafaaa.XFb
