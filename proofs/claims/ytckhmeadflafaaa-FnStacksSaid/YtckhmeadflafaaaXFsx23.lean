/- Functions of the program as plain Lean functions, each with the proof that the machine's call does what it says: written by a program of this session out of the translation. -/
import Derived.Test.YtckhmeadflafaaaXFsx0
import Derived.Test.YtckhmeadflafaaaXFsx2
import Derived.Test.YtckhmeadflafaaaXFsx8
import Derived.Test.YtckhmeadflafaaaXFsx11
import Derived.Test.YtckhmeadflafaaaXFsx15
import Derived.Test.YtckhmeadflafaaaXFsx20
import Derived.Test.YtckhmeadflafaaaXFsx21
import Derived.Test.YtckhmeadflafaaaXFsx22
namespace Go.Proofs.Ytckhmeadflafaaa.XFs
open Go.RowKit Go.Proofs.YtckhmeadflafaaaW.PrintWords Go.Proofs.YtckhmeadflafaaaW.PrintLast Go.Proofs.YtckhmeadflafaaaW.PrintMore
attribute [local go_sem] max2_int min2_int max_two min_two max_three min_three max_four min_four   -- for this text's walks alone
set_option linter.unusedVariables false
set_option linter.unusedSimpArgs false

/-! ### laws_FnStacks: function 9 -/
mutual
def laws_FnStacks.j0 : Nat → List Int → Bool → Option (Bool)
 | 0, _, _ => none
 | k + 1, x0, x77 => if x77 = true then (none) else ((spec_DrawIsBody.f k x0).bind fun t455 => ((impl_BodySide.f k t455).bind fun bt458 => ((spec_BodySide.f k t455).bind fun bt460 => (if bt458.1 = bt460.1 then (if (bt458.2 != bt460.2) = true then (none) else (if bt458.2 = true then (laws_FnStacks.l0 k t455 bt458.1 0 0) else (some true))) else (none)))))
def laws_FnStacks.l0 : Nat → List (S49) → Int → Int → Int → Option (Bool)
 | 0, _, _, _, _ => none
 | k + 1, x12, x13, x17, x18 => if x18 < (x12.length : Int) then (if 0 ≤ x18 then (if (wrap64 (((rd_T49 x12 x18).f0) + 1)) > x17 then (laws_FnStacks.l0 k x12 x13 (wrap64 (((rd_T49 x12 x18).f0) + 1)) (wrap64 (x18 + 1))) else (laws_FnStacks.l0 k x12 x13 x17 (wrap64 (x18 + 1)))) else (none)) else (if (wrap64 (x17 + (x12.length : Int))) > 12 then (some true) else (laws_FnStacks.l1 k x12 x13 x17 (([] : List (S49))) 0))
def laws_FnStacks.l1 : Nat → List (S49) → Int → Int → List (S49) → Int → Option (Bool)
 | 0, _, _, _, _, _ => none
 | k + 1, x12, x13, x17, x19, x20 => if x20 < x17 then (if x19.length < 8796093022208 then (laws_FnStacks.l1 k x12 x13 x17 (x19 ++ [(⟨x20, 0⟩ : S49)]) (wrap64 (x20 + 1))) else (none)) else ((impl_StackBodies.f k x19 x12 0).bind fun bt470 => (if bt470.2.2 = true then (some (bt470.2.1 == (x13 == 0))) else (none)))
end
def laws_FnStacks.f (k : Nat) (l0 : List Int) : Option (Bool) := (laws_rBig.f l0).bind fun t435 => (if t435 = true then (some true) else ((spec_DrawStackBodies.f k l0).bind fun bt436 => ((impl_StackBodies.f k bt436.1 bt436.2.1 bt436.2.2).bind fun bt443 => ((spec_StackBodies.f k bt436.1 bt436.2.1 bt436.2.2).bind fun bt448 => (if (bt443.2.1 != bt448.2.1) = true then (none) else (if (bt443.2.2 != bt448.2.2) = true then (none) else ((laws_rCells.f k bt443.1 bt448.1).bind fun t453 => (if t453 = true then (if bt443.2.2 = true then (if (bt443.1.length : Int) = (wrap64 ((bt436.1.length : Int) + (bt436.2.1.length : Int))) then ((impl_IsBody.f k bt443.1).bind fun t454 => (laws_FnStacks.j0 k l0 (!t454))) else (none)) else (laws_FnStacks.j0 k l0 false)) else (none)))))))))
theorem laws_FnStacks.mono_l : ∀ k, (∀ y0 y1, LeO (laws_FnStacks.j0 k y0 y1) (laws_FnStacks.j0 (k + 1) y0 y1)) ∧ (∀ y0 y1 y2 y3, LeO (laws_FnStacks.l0 k y0 y1 y2 y3) (laws_FnStacks.l0 (k + 1) y0 y1 y2 y3)) ∧ (∀ y0 y1 y2 y3 y4, LeO (laws_FnStacks.l1 k y0 y1 y2 y3 y4) (laws_FnStacks.l1 (k + 1) y0 y1 y2 y3 y4))
 | 0 => ⟨fun _ _ r h => by simp [laws_FnStacks.j0] at h, fun _ _ _ _ r h => by simp [laws_FnStacks.l0] at h, fun _ _ _ _ _ r h => by simp [laws_FnStacks.l1] at h⟩
 | k + 1 => by
  obtain ⟨ih0, ih1, ih2⟩ := laws_FnStacks.mono_l k; refine ⟨?_, ?_, ?_⟩
  ·intro y0 y1
   unfold laws_FnStacks.j0
   repeat' first
   | (with_reducible exact ih0 _ _)
   | (with_reducible exact ih1 _ _ _ _)
   | (with_reducible exact ih2 _ _ _ _ _)
   | (with_reducible exact impl_BodySide.mono _ _)
   | (with_reducible exact impl_IsBody.mono _ _)
   | (with_reducible exact impl_StackBodies.mono _ _ _ _)
   | (with_reducible exact laws_rCells.mono _ _ _)
   | (with_reducible exact spec_BodySide.mono _ _)
   | (with_reducible exact spec_DrawIsBody.mono _ _)
   | (with_reducible exact spec_DrawStackBodies.mono _ _)
   | (with_reducible exact spec_StackBodies.mono _ _ _ _)
   | (with_reducible exact LeO.refl _)
   | (with_reducible exact LeO.none _)
   | (with_reducible refine LeO.ite ?_ ?_)
   | (with_reducible refine LeO.bind ?_ (fun _ => ?_))
  ·intro y0 y1 y2 y3
   unfold laws_FnStacks.l0
   repeat' first
   | (with_reducible exact ih0 _ _)
   | (with_reducible exact ih1 _ _ _ _)
   | (with_reducible exact ih2 _ _ _ _ _)
   | (with_reducible exact impl_BodySide.mono _ _)
   | (with_reducible exact impl_IsBody.mono _ _)
   | (with_reducible exact impl_StackBodies.mono _ _ _ _)
   | (with_reducible exact laws_rCells.mono _ _ _)
   | (with_reducible exact spec_BodySide.mono _ _)
   | (with_reducible exact spec_DrawIsBody.mono _ _)
   | (with_reducible exact spec_DrawStackBodies.mono _ _)
   | (with_reducible exact spec_StackBodies.mono _ _ _ _)
   | (with_reducible exact LeO.refl _)
   | (with_reducible exact LeO.none _)
   | (with_reducible refine LeO.ite ?_ ?_)
   | (with_reducible refine LeO.bind ?_ (fun _ => ?_))
  ·intro y0 y1 y2 y3 y4
   unfold laws_FnStacks.l1
   repeat' first
   | (with_reducible exact ih0 _ _)
   | (with_reducible exact ih1 _ _ _ _)
   | (with_reducible exact ih2 _ _ _ _ _)
   | (with_reducible exact impl_BodySide.mono _ _)
   | (with_reducible exact impl_IsBody.mono _ _)
   | (with_reducible exact impl_StackBodies.mono _ _ _ _)
   | (with_reducible exact laws_rCells.mono _ _ _)
   | (with_reducible exact spec_BodySide.mono _ _)
   | (with_reducible exact spec_DrawIsBody.mono _ _)
   | (with_reducible exact spec_DrawStackBodies.mono _ _)
   | (with_reducible exact spec_StackBodies.mono _ _ _ _)
   | (with_reducible exact LeO.refl _)
   | (with_reducible exact LeO.none _)
   | (with_reducible refine LeO.ite ?_ ?_)
   | (with_reducible refine LeO.bind ?_ (fun _ => ?_))
theorem laws_FnStacks.mono : ∀ a0 k, LeO (laws_FnStacks.f k a0) (laws_FnStacks.f (k + 1) a0) := by
 intro a0 k; obtain ⟨ih0, ih1, ih2⟩ := laws_FnStacks.mono_l k
 unfold laws_FnStacks.f
 repeat' first
   | (with_reducible exact ih0 _ _)
   | (with_reducible exact ih1 _ _ _ _)
   | (with_reducible exact ih2 _ _ _ _ _)
   | (with_reducible exact impl_BodySide.mono _ _)
   | (with_reducible exact impl_IsBody.mono _ _)
   | (with_reducible exact impl_StackBodies.mono _ _ _ _)
   | (with_reducible exact laws_rCells.mono _ _ _)
   | (with_reducible exact spec_BodySide.mono _ _)
   | (with_reducible exact spec_DrawIsBody.mono _ _)
   | (with_reducible exact spec_DrawStackBodies.mono _ _)
   | (with_reducible exact spec_StackBodies.mono _ _ _ _)
   | (with_reducible exact LeO.refl _)
   | (with_reducible exact LeO.none _)
   | (with_reducible refine LeO.ite ?_ ?_)
   | (with_reducible refine LeO.bind ?_ (fun _ => ?_))
set_option maxHeartbeats 8000000 in
set_option maxRecDepth 100000 in
theorem laws_FnStacks.calls (k : Nat) (A0 : Option Addr) (c0 : Nat) (l0 : List Int) (r : Bool) (w : World) (hr0 : Kd.C (Kd.int .u8) w A0 l0.length l0) (hc0 : l0.length ≤ c0) (h : laws_FnStacks.f k l0 = some r) :
  Calls Try.prog 9 #[.slice A0 l0.length c0] w fun e w' => e = .returned (.bool r) ∧ Below w.heap.size w w' := by
 have hu49 := Try.underlying49; have HR0 := Aside0.mk hr0; have HC0 := Aside0.mk hc0; clear hr0 hc0; have HB := Aside0.mk (Below.refl w.heap.size w); have H : ((laws_rBig.f l0).bind fun t435 => (if t435 = true then (some true) else ((spec_DrawStackBodies.f k l0).bind fun bt436 => ((impl_StackBodies.f k bt436.1 bt436.2.1 bt436.2.2).bind fun bt443 => ((spec_StackBodies.f k bt436.1 bt436.2.1 bt436.2.2).bind fun bt448 => (if (bt443.2.1 != bt448.2.1) = true then (none) else (if (bt443.2.2 != bt448.2.2) = true then (none) else ((laws_rCells.f k bt443.1 bt448.1).bind fun t453 => (if t453 = true then (if bt443.2.2 = true then (if (bt443.1.length : Int) = (wrap64 ((bt436.1.length : Int) + (bt436.2.1.length : Int))) then ((impl_IsBody.f k bt443.1).bind fun t454 => (laws_FnStacks.j0 k l0 (!t454))) else (none)) else (laws_FnStacks.j0 k l0 false)) else (none)))))))))) = some r := h; clear h; replace H := Option.bind_eq_some_iff.mp H; obtain ⟨t435, A20, H⟩ := H; replace H : (if t435 = true then (some true) else ((spec_DrawStackBodies.f k l0).bind fun bt436 => ((impl_StackBodies.f k bt436.1 bt436.2.1 bt436.2.2).bind fun bt443 => ((spec_StackBodies.f k bt436.1 bt436.2.1 bt436.2.2).bind fun bt448 => (if (bt443.2.1 != bt448.2.1) = true then (none) else (if (bt443.2.2 != bt448.2.2) = true then (none) else ((laws_rCells.f k bt443.1 bt448.1).bind fun t453 => (if t453 = true then (if bt443.2.2 = true then (if (bt443.1.length : Int) = (wrap64 ((bt436.1.length : Int) + (bt436.2.1.length : Int))) then ((impl_IsBody.f k bt443.1).bind fun t454 => (laws_FnStacks.j0 k l0 (!t454))) else (none)) else (laws_FnStacks.j0 k l0 false)) else (none))))))))) = some r := H; have A2 := Aside0.mk A20; clear A20
 by_cases c3 : t435 = true
 ·subst c3
  have H1 : (some true) = some r := by rw [if_pos rfl] at H; exact H
  clear H; have H := H1; clear H1; obtain rfl := Option.some.inj H
  go_enter Try.func9, Try.ntmps9
  go_wp2_with (((with_reducible refine gate_callee (f := 31) rfl ?_); refine goesL_ (some 25) rfl rfl Try.func31 (by kernel_rfl) rfl #[.slice A0 l0.length c0] rfl (by (try simp only [List.map_toArray, List.map_cons, List.map_nil]); rfl) ?_; (with_reducible refine (laws_rBig.calls _ _ l0 true _ ?side1 ?side2 A2.out).mono ?_); (case side1 => repeat (exact HR0.out)); (case side2 => exact HC0.out); rintro e w' ⟨rfl, ⟨nd, rfl⟩⟩; refine ⟨_, rfl, ?_⟩))
  go_ret; exact ⟨by first | rfl | (simp [errW_none, errW_some] <;> rfl) | (simp [*, errW_none, errW_some] <;> rfl), by repeat ((with_reducible first | exact HB.out | apply pw_below_drewN))⟩
 ·replace c3 := Bool.eq_false_iff.mpr c3
  subst c3
  have H1 : ((spec_DrawStackBodies.f k l0).bind fun bt436 => ((impl_StackBodies.f k bt436.1 bt436.2.1 bt436.2.2).bind fun bt443 => ((spec_StackBodies.f k bt436.1 bt436.2.1 bt436.2.2).bind fun bt448 => (if (bt443.2.1 != bt448.2.1) = true then (none) else (if (bt443.2.2 != bt448.2.2) = true then (none) else ((laws_rCells.f k bt443.1 bt448.1).bind fun t453 => (if t453 = true then (if bt443.2.2 = true then (if (bt443.1.length : Int) = (wrap64 ((bt436.1.length : Int) + (bt436.2.1.length : Int))) then ((impl_IsBody.f k bt443.1).bind fun t454 => (laws_FnStacks.j0 k l0 (!t454))) else (none)) else (laws_FnStacks.j0 k l0 false)) else (none)))))))) = some r := by rw [if_neg (show ¬ (false = true) by decide)] at H; exact H
  clear H; have H := H1; clear H1; replace H := Option.bind_eq_some_iff.mp H; obtain ⟨⟨t436, t437, t438⟩, A40, H⟩ := H; replace H : ((impl_StackBodies.f k t436 t437 t438).bind fun bt443 => ((spec_StackBodies.f k t436 t437 t438).bind fun bt448 => (if (bt443.2.1 != bt448.2.1) = true then (none) else (if (bt443.2.2 != bt448.2.2) = true then (none) else ((laws_rCells.f k bt443.1 bt448.1).bind fun t453 => (if t453 = true then (if bt443.2.2 = true then (if (bt443.1.length : Int) = (wrap64 ((t436.length : Int) + (t437.length : Int))) then ((impl_IsBody.f k bt443.1).bind fun t454 => (laws_FnStacks.j0 k l0 (!t454))) else (none)) else (laws_FnStacks.j0 k l0 false)) else (none))))))) = some r := H; have A4 := Aside0.mk A40; clear A40; replace H := Option.bind_eq_some_iff.mp H; obtain ⟨⟨t443, t444, t445⟩, A50, H⟩ := H; replace H : ((spec_StackBodies.f k t436 t437 t438).bind fun bt448 => (if (t444 != bt448.2.1) = true then (none) else (if (t445 != bt448.2.2) = true then (none) else ((laws_rCells.f k t443 bt448.1).bind fun t453 => (if t453 = true then (if t445 = true then (if (t443.length : Int) = (wrap64 ((t436.length : Int) + (t437.length : Int))) then ((impl_IsBody.f k t443).bind fun t454 => (laws_FnStacks.j0 k l0 (!t454))) else (none)) else (laws_FnStacks.j0 k l0 false)) else (none)))))) = some r := H; have A5 := Aside0.mk A50; clear A50; replace H := Option.bind_eq_some_iff.mp H; obtain ⟨⟨t448, t449, t450⟩, A60, H⟩ := H; replace H : (if (t444 != t449) = true then (none) else (if (t445 != t450) = true then (none) else ((laws_rCells.f k t443 t448).bind fun t453 => (if t453 = true then (if t445 = true then (if (t443.length : Int) = (wrap64 ((t436.length : Int) + (t437.length : Int))) then ((impl_IsBody.f k t443).bind fun t454 => (laws_FnStacks.j0 k l0 (!t454))) else (none)) else (laws_FnStacks.j0 k l0 false)) else (none))))) = some r := H; have A6 := Aside0.mk A60; clear A60
  by_cases c7 : (t444 != t449) = true
  ·rw [if_pos c7] at H
   exact absurd H (by simp)
  ·rw [if_neg c7] at H
   have c7b0 : (t444 != t449) = false := by simpa using c7
   (try (have c7b1 : decide (t444 = t449) = true := by simpa using c7))
   (try (have c7b2 : (t444 == t449) = true := by simpa using c7))
   clear c7
   by_cases c8 : (t445 != t450) = true
   ·rw [if_pos c8] at H
    exact absurd H (by simp)
   ·rw [if_neg c8] at H
    have c8b0 : (t445 != t450) = false := by simpa using c8
    (try (have c8b1 : decide (t445 = t450) = true := by simpa using c8))
    (try (have c8b2 : (t445 == t450) = true := by simpa using c8))
    clear c8; replace H := Option.bind_eq_some_iff.mp H; obtain ⟨t453, A90, H⟩ := H; replace H : (if t453 = true then (if t445 = true then (if (t443.length : Int) = (wrap64 ((t436.length : Int) + (t437.length : Int))) then ((impl_IsBody.f k t443).bind fun t454 => (laws_FnStacks.j0 k l0 (!t454))) else (none)) else (laws_FnStacks.j0 k l0 false)) else (none)) = some r := H; have A9 := Aside0.mk A90; clear A90
    by_cases c10 : t453 = true
    ·subst c10
     have H1 : (if t445 = true then (if (t443.length : Int) = (wrap64 ((t436.length : Int) + (t437.length : Int))) then ((impl_IsBody.f k t443).bind fun t454 => (laws_FnStacks.j0 k l0 (!t454))) else (none)) else (laws_FnStacks.j0 k l0 false)) = some r := by rw [if_pos rfl] at H; exact H
     clear H; have H := H1; clear H1; have HC11 := Aside0.mk H; clear H
     go_enter Try.func9, Try.ntmps9
     go_upto_region 8 with (first | ((with_reducible refine gate_callee (f := 31) rfl ?_); refine goesL_ (some 25) rfl rfl Try.func31 (by kernel_rfl) rfl #[.slice A0 l0.length c0] rfl (by (try simp only [List.map_toArray, List.map_cons, List.map_nil]); rfl) ?_; (with_reducible refine (laws_rBig.calls _ _ l0 false _ ?side1 ?side2 A2.out).mono ?_); (case side1 => repeat (exact HR0.out)); (case side2 => exact HC0.out); rintro e w' ⟨rfl, ⟨nd, rfl⟩⟩; refine ⟨_, rfl, ?_⟩) | ((with_reducible refine gate_callee (f := 32) rfl ?_); refine goesL_ (some 28) rfl rfl Try.func32 (by kernel_rfl) rfl #[.slice A0 l0.length c0] rfl (by (try simp only [List.map_toArray, List.map_cons, List.map_nil]); rfl) ?_; (with_reducible refine (spec_DrawStackBodies.calls k _ _ l0 t436 t437 t438 _ ?side1 ?side2 A4.out).mono ?_); (case side1 => repeat (exact HR0.out)); (case side2 => exact HC0.out); rintro e w12 ⟨v439, v441, rfl, ho0, ho1, hb⟩; refine ⟨_, rfl, ?_⟩; have n0_ := Aside0.mk (Kd.R_lower ho0 (below_size (by repeat ((with_reducible first | exact HB.out | apply pw_below_drewN))))); have n1_ := Aside0.mk (Kd.R_lower ho1 (below_size (by repeat ((with_reducible first | exact HB.out | apply pw_below_drewN))))); have n2_ := Aside0.mk (below_step (by repeat ((with_reducible first | exact HB.out | apply pw_below_drewN))) hb); clear HB; have HO440 := n0_; have HO442 := n1_; have HB := n2_; clear n0_ n1_ n2_; (try clear hb); (try clear hb2); (try clear hk); (try clear hi); (try clear ho0); (try clear ho1); obtain ⟨Ao13, co13, eo13⟩ := Kd.R_slice HO440.out; subst eo13; obtain ⟨Ao14, co14, eo14⟩ := Kd.R_slice HO442.out; subst eo14) | ((with_reducible refine gate_callee (f := 21) rfl ?_); refine goesL_ (some 36) rfl rfl Try.func21 (by kernel_rfl) rfl #[.slice Ao13 t436.length co13, .slice Ao14 t437.length co14, .int .i64 t438] rfl (by (try simp only [List.map_toArray, List.map_cons, List.map_nil]); rfl) ?_; (with_reducible refine (impl_StackBodies.calls k _ _ t436 _ _ t437 t438 t443 t444 t445 _ ?side1 ?side2 ?side3 ?side4 A5.out).mono ?_); (case side1 => repeat (exact (Kd.R_reads' HO440.out).2.2)); (case side2 => exact (Kd.R_reads' HO440.out).2.1); (case side3 => repeat (exact (Kd.R_reads' HO442.out).2.2)); (case side4 => exact (Kd.R_reads' HO442.out).2.1); rintro e w15 ⟨v446, rfl, ho0, hb⟩; refine ⟨_, rfl, ?_⟩; have n0_ := Aside0.mk (Kd.R_elder' (by exact HO440.out) (Kd.R_base ho0) hb); have n1_ := Aside0.mk (Kd.R_elder' (by exact HO442.out) (Kd.R_base ho0) hb); have n2_ := Aside0.mk (Kd.R_lower (Kd.R_new' (Kd.R_new' ho0 (Kd.R_lt (by exact HO440.out))) (Kd.R_lt (by exact HO442.out))) (below_size (by repeat ((with_reducible exact HB.out))))); have n3_ := Aside0.mk (below_step (by repeat ((with_reducible exact HB.out))) hb); clear HO440; clear HO442; clear HB; have HO440 := n0_; have HO442 := n1_; have HO447 := n2_; have HB := n3_; clear n0_ n1_ n2_ n3_; (try clear hb); (try clear hb2); (try clear hk); (try clear hi); (try clear ho0)) | ((with_reducible refine gate_callee (f := 20) rfl ?_); refine goesL_ (some 44) rfl rfl Try.func20 (by kernel_rfl) rfl #[.slice Ao13 t436.length co13, .slice Ao14 t437.length co14, .int .i64 t438] rfl (by (try simp only [List.map_toArray, List.map_cons, List.map_nil]); rfl) ?_; (with_reducible refine (spec_StackBodies.calls k _ _ t436 _ _ t437 t438 t448 t449 t450 _ ?side1 ?side2 ?side3 ?side4 A6.out).mono ?_); (case side1 => repeat (exact (Kd.R_reads' HO440.out).2.2)); (case side2 => exact (Kd.R_reads' HO440.out).2.1); (case side3 => repeat (exact (Kd.R_reads' HO442.out).2.2)); (case side4 => exact (Kd.R_reads' HO442.out).2.1); rintro e w16 ⟨v451, rfl, ho0, hb⟩; refine ⟨_, rfl, ?_⟩; have n0_ := Aside0.mk (Kd.R_elder' (by exact HO440.out) (Kd.R_base ho0) hb); have n1_ := Aside0.mk (Kd.R_elder' (by exact HO442.out) (Kd.R_base ho0) hb); have n2_ := Aside0.mk (Kd.R_elder' (by exact HO447.out) (Kd.R_base ho0) hb); have n3_ := Aside0.mk (Kd.R_lower (Kd.R_new' (Kd.R_new' (Kd.R_new' ho0 (Kd.R_lt (by exact HO440.out))) (Kd.R_lt (by exact HO442.out))) (Kd.R_lt (by exact HO447.out))) (below_size (by repeat ((with_reducible exact HB.out))))); have n4_ := Aside0.mk (below_step (by repeat ((with_reducible exact HB.out))) hb); clear HO440; clear HO442; clear HO447; clear HB; have HO440 := n0_; have HO442 := n1_; have HO447 := n2_; have HO452 := n3_; have HB := n4_; clear n0_ n1_ n2_ n3_ n4_; (try clear hb); (try clear hb2); (try clear hk); (try clear hi); (try clear ho0); obtain ⟨Ao17, co17, eo17⟩ := Kd.R_slice HO447.out; subst eo17; obtain ⟨Ao18, co18, eo18⟩ := Kd.R_slice HO452.out; subst eo18) | (go_at_call 33; (with_reducible refine (laws_rCells.calls k _ _ t443 _ _ t448 true _ ?side1 ?side2 ?side3 ?side4 A9.out).mono ?_); (case side1 => repeat (exact (Kd.R_reads' HO447.out).2.2)); (case side2 => exact (Kd.R_reads' HO447.out).2.1); (case side3 => repeat (exact (Kd.R_reads' HO452.out).2.2)); (case side4 => exact (Kd.R_reads' HO452.out).2.1); rintro e w' ⟨rfl, ⟨nd, rfl⟩⟩))
     (try simp only [Act.put, sA, sZ, sS])
     go_cut [77] (fun v77 wc => ∃ (kq : Nat) (x77_10 : Bool), v77 = .bool x77_10 ∧ Aside0 (laws_FnStacks.j0 kq l0 x77_10 = some r) ∧ Aside0 (kq ≤ k) ∧ Aside0 (Below w.heap.size w wc))
     case first =>
      have H := HC11.out; clear HC11
      by_cases c19 : t445 = true
      ·subst c19
       have H1 : (if (t443.length : Int) = (wrap64 ((t436.length : Int) + (t437.length : Int))) then ((impl_IsBody.f k t443).bind fun t454 => (laws_FnStacks.j0 k l0 (!t454))) else (none)) = some r := by rw [if_pos rfl] at H; exact H
       clear H; have H := H1; clear H1
       by_cases c20 : (t443.length : Int) = (wrap64 ((t436.length : Int) + (t437.length : Int)))
       ·rw [if_pos c20] at H
        have c20b0 : ((t443.length : Int) == (wrap64 ((t436.length : Int) + (t437.length : Int)))) = true := beq_iff_eq.mpr c20; have c20b1 : ((t443.length : Int) != (wrap64 ((t436.length : Int) + (t437.length : Int)))) = false := bne_eq_false_iff_eq.mpr c20; clear c20
        (skip)
        replace H := Option.bind_eq_some_iff.mp H; obtain ⟨t454, A210, H⟩ := H; replace H : (laws_FnStacks.j0 k l0 (!t454)) = some r := H; have A21 := Aside0.mk A210; clear A210; have H' := Aside0.mk H; clear H
        go_wp2_with ((go_at_call 34; (with_reducible refine (impl_IsBody.calls k _ _ t443 t454 _ ?side1 ?side2 A21.out).mono ?_); (case side1 => repeat (exact (Kd.R_reads' HO447.out).2.2)); (case side2 => exact (Kd.R_reads' HO447.out).2.1); rintro e w22 ⟨rfl, hb⟩; have n0_ := Aside0.mk (Kd.R_below (by (with_reducible repeat (apply Kd.R_drewN)); exact HO440.out) hb); have n1_ := Aside0.mk (Kd.R_below (by (with_reducible repeat (apply Kd.R_drewN)); exact HO442.out) hb); have n2_ := Aside0.mk (Kd.R_below (by (with_reducible repeat (apply Kd.R_drewN)); exact HO447.out) hb); have n3_ := Aside0.mk (Kd.R_below (by (with_reducible repeat (apply Kd.R_drewN)); exact HO452.out) hb); have n4_ := Aside0.mk (below_step (by repeat ((with_reducible first | exact HB.out | apply pw_below_drewN))) hb); clear HO440; clear HO442; clear HO447; clear HO452; clear HB; have HO440 := n0_; have HO442 := n1_; have HO447 := n2_; have HO452 := n3_; have HB := n4_; clear n0_ n1_ n2_ n3_ n4_; (try clear hb); (try clear hb2); (try clear hk); (try clear hi)))
        go_meet
        case rel => exact ⟨_, (!t454), (by rfl), H', ⟨by first | omega | exact Nat.le_refl _⟩, ⟨by repeat ((with_reducible exact HB.out))⟩⟩
       ·rw [if_neg c20] at H
        exact absurd H (by simp)
      ·replace c19 := Bool.eq_false_iff.mpr c19
       subst c19
       have H1 : (laws_FnStacks.j0 k l0 false) = some r := by rw [if_neg (show ¬ (false = true) by decide)] at H; exact H
       clear H; have H := H1; clear H1; have H' := Aside0.mk H; clear H; go_wp2
       go_meet
       case rel => exact ⟨_, (false), (by rfl), H', ⟨by first | omega | exact Nat.le_refl _⟩, ⟨by repeat ((with_reducible first | exact HB.out | apply pw_below_drewN))⟩⟩
     case rest =>
      clear HC11; (try clear c1); (try clear c2); (try clear p2); (try clear c3); (try clear p6); (try clear c7); (try clear c7b0); (try clear c7b1); (try clear c7b2); (try clear c8); (try clear c8b0); (try clear c8b1); (try clear c8b2); (try clear c9); (try clear c10); (try clear c19); (try clear c20); (try clear c20b0); (try clear c20b1); (try clear c21); obtain ⟨kq, x77_10, rfl, HA, HJ10, HB⟩ := hcut
      cases kq with
      | zero => exact absurd HA.out (by simp [laws_FnStacks.j0])
      | succ kj10 =>
       have H := HA.out; clear HA; simp only [laws_FnStacks.j0] at H
       by_cases c23 : x77_10 = true
       ·subst c23
        have H1 : (none) = some r := by rw [if_pos rfl] at H; exact H
        clear H; have H := H1; clear H1; exact absurd H (by simp)
       ·replace c23 := Bool.eq_false_iff.mpr c23
        subst c23
        have H1 : ((spec_DrawIsBody.f kj10 l0).bind fun t455 => ((impl_BodySide.f kj10 t455).bind fun bt458 => ((spec_BodySide.f kj10 t455).bind fun bt460 => (if bt458.1 = bt460.1 then (if (bt458.2 != bt460.2) = true then (none) else (if bt458.2 = true then (laws_FnStacks.l0 kj10 t455 bt458.1 0 0) else (some true))) else (none))))) = some r := by rw [if_neg (show ¬ (false = true) by decide)] at H; exact H
        clear H; have H := H1; clear H1; replace H := Option.bind_eq_some_iff.mp H; obtain ⟨t455, A240, H⟩ := H; replace H : ((impl_BodySide.f kj10 t455).bind fun bt458 => ((spec_BodySide.f kj10 t455).bind fun bt460 => (if bt458.1 = bt460.1 then (if (bt458.2 != bt460.2) = true then (none) else (if bt458.2 = true then (laws_FnStacks.l0 kj10 t455 bt458.1 0 0) else (some true))) else (none)))) = some r := H; have A24 := Aside0.mk A240; clear A240; replace H := Option.bind_eq_some_iff.mp H; obtain ⟨⟨t458, t459⟩, A250, H⟩ := H; replace H : ((spec_BodySide.f kj10 t455).bind fun bt460 => (if t458 = bt460.1 then (if (t459 != bt460.2) = true then (none) else (if t459 = true then (laws_FnStacks.l0 kj10 t455 t458 0 0) else (some true))) else (none))) = some r := H; have A25 := Aside0.mk A250; clear A250; replace H := Option.bind_eq_some_iff.mp H; obtain ⟨⟨t460, t461⟩, A260, H⟩ := H; replace H : (if t458 = t460 then (if (t459 != t461) = true then (none) else (if t459 = true then (laws_FnStacks.l0 kj10 t455 t458 0 0) else (some true))) else (none)) = some r := H; have A26 := Aside0.mk A260; clear A260
        by_cases c27 : t458 = t460
        ·rw [if_pos c27] at H
         have c27b0 : (t458 == t460) = true := beq_iff_eq.mpr c27; have c27b1 : (t458 != t460) = false := bne_eq_false_iff_eq.mpr c27; clear c27
         by_cases c28 : (t459 != t461) = true
         ·rw [if_pos c28] at H
          exact absurd H (by simp)
         ·rw [if_neg c28] at H
          have c28b0 : (t459 != t461) = false := by simpa using c28
          (try (have c28b1 : decide (t459 = t461) = true := by simpa using c28))
          (try (have c28b2 : (t459 == t461) = true := by simpa using c28))
          clear c28
          by_cases c29 : t459 = true
          ·subst c29
           have H1 : (laws_FnStacks.l0 kj10 t455 t458 0 0) = some r := by rw [if_pos rfl] at H; exact H
           clear H; have H := H1; clear H1; have H' := Aside0.mk H; clear H
           go_wp2_with (first | ((with_reducible refine gate_callee (f := 35) rfl ?_); refine goesL_ (some 79) rfl rfl Try.func35 (by kernel_rfl) rfl #[.slice A0 l0.length c0] rfl (by (try simp only [List.map_toArray, List.map_cons, List.map_nil]); rfl) ?_; (with_reducible refine (spec_DrawIsBody.calls kj10 _ _ l0 t455 _ ?side1 ?side2 A24.out).mono ?_); (case side1 => repeat (exact (Kd.C_below HR0.out HB.out))); (case side2 => exact HC0.out); rintro e w30 ⟨v456, rfl, ho0, hb⟩; refine ⟨_, rfl, ?_⟩; have n0_ := Aside0.mk (Kd.R_lower ho0 (below_size (by repeat ((with_reducible exact HB.out))))); have n1_ := Aside0.mk (below_step (by repeat ((with_reducible exact HB.out))) hb); clear HB; have HO457 := n0_; have HB := n1_; clear n0_ n1_; (try clear hb); (try clear hb2); (try clear hk); (try clear hi); (try clear ho0); obtain ⟨Ao31, co31, eo31⟩ := Kd.R_slice HO457.out; subst eo31) | ((with_reducible refine gate_callee (f := 36) rfl ?_); refine goesL_ (some 82) rfl rfl Try.func36 (by kernel_rfl) rfl #[.slice Ao31 t455.length co31] rfl (by (try simp only [List.map_toArray, List.map_cons, List.map_nil]); rfl) ?_; (with_reducible refine (impl_BodySide.calls kj10 _ _ t455 t458 true _ ?side1 ?side2 A25.out).mono ?_); (case side1 => repeat (exact (Kd.R_reads' HO457.out).2.2)); (case side2 => exact (Kd.R_reads' HO457.out).2.1); rintro e w32 ⟨rfl, hb⟩; refine ⟨_, rfl, ?_⟩; have n0_ := Aside0.mk (Kd.R_below (by exact HO457.out) hb); have n1_ := Aside0.mk (below_step (by repeat ((with_reducible exact HB.out))) hb); clear HO457; clear HB; have HO457 := n0_; have HB := n1_; clear n0_ n1_; (try clear hb); (try clear hb2); (try clear hk); (try clear hi)) | ((with_reducible refine gate_callee (f := 37) rfl ?_); refine goesL_ (some 87) rfl rfl Try.func37 (by kernel_rfl) rfl #[.slice Ao31 t455.length co31] rfl (by (try simp only [List.map_toArray, List.map_cons, List.map_nil]); rfl) ?_; (with_reducible refine (spec_BodySide.calls kj10 _ _ t455 t460 t461 _ ?side1 ?side2 A26.out).mono ?_); (case side1 => repeat (exact (Kd.R_reads' HO457.out).2.2)); (case side2 => exact (Kd.R_reads' HO457.out).2.1); rintro e w33 ⟨rfl, hb⟩; refine ⟨_, rfl, ?_⟩; have n0_ := Aside0.mk (Kd.R_below (by exact HO457.out) hb); have n1_ := Aside0.mk (below_step (by repeat ((with_reducible exact HB.out))) hb); clear HO457; clear HB; have HO457 := n0_; have HB := n1_; clear n0_ n1_; (try clear hb); (try clear hb2); (try clear hk); (try clear hi)))
           (try simp only [Act.put, sA, sZ, sS])
           go_loopg [17, 18] kj10 (fun kq v17 v18 w' => ∃ (x17_2 : Int) (x18_2 : Int), v17 = .int .i64 x17_2 ∧ v18 = .int .i64 x18_2 ∧ Aside0 (laws_FnStacks.l0 kq t455 t458 x17_2 x18_2 = some r) ∧ Aside0 (kq ≤ kj10) ∧ Aside0 (Kd.R k49 49 w' w.heap.size (fun _ => True) (.slice Ao31 t455.length co31) t455) ∧ Aside0 (Below w.heap.size w w'))
           case atStart => exact ⟨(0), (0), (by rfl), (by rfl), H', ⟨Nat.le_refl _⟩, ⟨by exact HO457.out⟩, ⟨by repeat ((with_reducible exact HB.out))⟩⟩
           case round =>
            clear H'; (try clear c1); (try clear c2); (try clear p2); (try clear c3); (try clear p6); (try clear c7); (try clear c7b0); (try clear c7b1); (try clear c7b2); (try clear c8); (try clear c8b0); (try clear c8b1); (try clear c8b2); (try clear c9); (try clear c10); (try clear c19); (try clear c20); (try clear c20b0); (try clear c20b1); (try clear c21); (try clear c23); (try clear c27); (try clear c27b0); (try clear c27b1); (try clear c28); (try clear c28b0); (try clear c28b1); (try clear c28b2); (try clear c29); (try clear c31); (try clear c32); (try clear p2); (try clear p6); obtain ⟨x17_2, x18_2, rfl, rfl, HA, HK2, HO_12, HB⟩ := hrel
            cases gk with
            | zero => exact absurd HA.out (by simp [laws_FnStacks.l0])
            | succ k2 =>
             have H := HA.out; clear HA; simp only [laws_FnStacks.l0] at H
             by_cases c34 : x18_2 < (t455.length : Int)
             ·rw [if_pos c34] at H
              have c34b0 : decide (x18_2 < (t455.length : Int)) = true := decide_eq_true c34; clear c34
              by_cases c35 : 0 ≤ x18_2
              ·rw [if_pos c35] at H
               have c35b0 : decide (0 ≤ x18_2) = true := decide_eq_true c35; clear c35
               by_cases c36 : (wrap64 (((rd_T49 t455 x18_2).f0) + 1)) > x17_2
               ·rw [if_pos c36] at H
                have c36b0 : decide (x17_2 < (wrap64 (((rd_T49 t455 x18_2).f0) + 1))) = true := decide_eq_true c36; clear c36; have H' := Aside0.mk H; clear H; have p462 : 0 ≤ (x18_2 : Int) := of_decide_eq_true (by (with_reducible assumption)); have q462 : x18_2 < (t455.length : Int) := of_decide_eq_true (by (with_reducible assumption)); obtain ⟨ad462, e462, hx462_0, hx462_1⟩ := at_T49 (Kd.R_reads' HO_12.out).2.2 x18_2 p462 q462; cases e462; replace p462 := eq_true p462; replace q462 := eq_true q462; have p463 : 0 ≤ (x18_2 : Int) := of_decide_eq_true (by (with_reducible assumption)); have q463 : x18_2 < (t455.length : Int) := of_decide_eq_true (by (with_reducible assumption)); obtain ⟨ad463, e463, hx463_0, hx463_1⟩ := at_T49 (Kd.R_reads' HO_12.out).2.2 x18_2 p463 q463; obtain rfl : ad462 = ad463 := (by injection e463); replace p463 := eq_true p463; replace q463 := eq_true q463; go_wp2; go_roundg k2
                case measure => have := HJ10.out; have := HK2.out; omega
                case rel => exact ⟨(wrap64 (((rd_T49 t455 x18_2).f0) + 1)), (wrap64 (x18_2 + 1)), (by rfl), (by rfl), H', ⟨by have := HJ10.out; have := HK2.out; omega⟩, ⟨by exact HO_12.out⟩, ⟨by repeat ((with_reducible exact HB.out))⟩⟩
               ·rw [if_neg c36] at H
                have c36b0 : decide (x17_2 < (wrap64 (((rd_T49 t455 x18_2).f0) + 1))) = false := decide_eq_false c36; clear c36; have H' := Aside0.mk H; clear H; have p462 : 0 ≤ (x18_2 : Int) := of_decide_eq_true (by (with_reducible assumption)); have q462 : x18_2 < (t455.length : Int) := of_decide_eq_true (by (with_reducible assumption)); obtain ⟨ad462, e462, hx462_0, hx462_1⟩ := at_T49 (Kd.R_reads' HO_12.out).2.2 x18_2 p462 q462; cases e462; replace p462 := eq_true p462; replace q462 := eq_true q462; go_wp2; go_roundg k2
                case measure => have := HJ10.out; have := HK2.out; omega
                case rel => exact ⟨(x17_2), (wrap64 (x18_2 + 1)), (by rfl), (by rfl), H', ⟨by have := HJ10.out; have := HK2.out; omega⟩, ⟨by exact HO_12.out⟩, ⟨by repeat ((with_reducible exact HB.out))⟩⟩
              ·rw [if_neg c35] at H
               exact absurd H (by simp)
             ·rw [if_neg c34] at H
              have c34b0 : decide (x18_2 < (t455.length : Int)) = false := decide_eq_false c34; clear c34
              by_cases c37 : (wrap64 (x17_2 + (t455.length : Int))) > 12
              ·rw [if_pos c37] at H
               have c37b0 : decide (12 < (wrap64 (x17_2 + (t455.length : Int)))) = true := decide_eq_true c37; clear c37; obtain rfl := Option.some.inj H; go_wp2; go_ret; exact ⟨by first | rfl | (simp [errW_none, errW_some] <;> rfl) | (simp [*, errW_none, errW_some] <;> rfl), by repeat ((with_reducible exact HB.out))⟩
              ·rw [if_neg c37] at H
               have c37b0 : decide (12 < (wrap64 (x17_2 + (t455.length : Int)))) = false := decide_eq_false c37; clear c37; obtain ⟨y464, hy464⟩ : ∃ y_ : List (S49), y_ = (([] : List (S49))) := ⟨_, rfl⟩
               replace H : (laws_FnStacks.l1 k2 t455 t458 x17_2 y464 0) = some r := by first | (rw [hy464]; with_reducible exact H) | (have H2_ := (Option.bind_some _ _).symm.trans H; rw [hy464]; with_reducible exact H2_) | (have H2_ := (Option.bind_some _ _).symm.trans H; with_reducible exact H2_) | with_reducible exact H | (rw [hy464]; exact H) | exact H
               have Ny464 := Aside0.mk hy464; clear hy464; have H' := Aside0.mk H; clear H
               go_wp2_with (((with_reducible refine gate_dst (N := 125) rfl ?_); (try (refine gate_guard (by rfl) ?_; dsimp only)); refine Kd.R_lit k49 _ 49 ?hg (N := 125) ?hd (xs := ([] : List (S49))) (inner := []) (ok := fun _ => True) (okp := fun _ => True) ?hr ?hp (fun _ hk => hk) trivial (Below.refl _ _) (Nat.le_refl _) (by simp) ?_; (case hd => rfl); (case hg => rfl); (case hr => (go_simp; done)); (case hp => exact (Reps.none _ _)); intro v465 w38 ho39 hb hg_ hnew_; clear hg_ hnew_; (rw [← Ny464.out] at ho39); have n0_ := Aside0.mk (Kd.R_elder' (by exact HO_12.out) (Kd.R_base ho39) hb); have n1_ := Aside0.mk (Kd.R_lower (Kd.R_new' ho39 (Kd.R_lt (by exact HO_12.out))) (below_size (by repeat ((with_reducible exact HB.out))))); have n2_ := Aside0.mk (below_step (by repeat ((with_reducible exact HB.out))) hb); clear HO_12; clear HB; have HO_12 := n0_; have HO466 := n1_; have HB := n2_; clear n0_ n1_ n2_; clear hb ho39))
               (try simp only [Act.put, sA, sZ, sS])
               go_loopg [19, 20] k2 (fun kq v19 v20 w' => ∃ (x19_3 : List (S49)) (x20_3 : Int), v20 = .int .i64 x20_3 ∧ Aside0 (laws_FnStacks.l1 kq t455 t458 x17_2 x19_3 x20_3 = some r) ∧ Aside0 (kq ≤ k2) ∧ Aside0 (Kd.R k49 49 w' w.heap.size (fun k_ => some k_ ≠ (v19 : Value).ownBlock) (.slice Ao31 t455.length co31) t455) ∧ Aside0 (Kd.R k49 49 w' w.heap.size (fun k_ => some k_ ≠ ((.slice Ao31 t455.length co31) : Value).ownBlock) v19 x19_3) ∧ Aside0 (Below w.heap.size w w'))
               case atStart => exact ⟨(y464), (0), (by rfl), H', ⟨Nat.le_refl _⟩, ⟨by exact Kd.R_mono HO_12.out (fun _ hk => hk.2)⟩, ⟨by exact Kd.R_mono HO466.out (fun _ hk => hk.2)⟩, ⟨by repeat ((with_reducible exact HB.out))⟩⟩
               case round =>
                clear H'; (try clear c1); (try clear c2); (try clear p2); (try clear c3); (try clear p4); (try clear q4); (try clear hx4); (try clear p6); (try clear c7); (try clear c7b0); (try clear c7b1); (try clear c7b2); (try clear c8); (try clear c8b0); (try clear c8b1); (try clear c8b2); (try clear c9); (try clear c10); (try clear c19); (try clear c20); (try clear c20b0); (try clear c20b1); (try clear c21); (try clear c23); (try clear c27); (try clear c27b0); (try clear c27b1); (try clear c28); (try clear c28b0); (try clear c28b1); (try clear c28b2); (try clear c29); (try clear c31); (try clear c32); (try clear c34); (try clear c34b0); (try clear c35); (try clear c35b0); (try clear c36); (try clear c36b0); (try clear c37); (try clear c37b0); (try clear hx462_0); (try clear hx462_1); (try clear hx463_0); (try clear hx463_1); (try clear p2); (try clear p462); (try clear p463); (try clear p6); (try clear q462); (try clear q463); obtain ⟨x19_3, x20_3, rfl, HA, HK3, HO_12, HO_19, HB⟩ := hrel
                cases gk with
                | zero => exact absurd HA.out (by simp [laws_FnStacks.l1])
                | succ k3 =>
                 have H := HA.out; clear HA; simp only [laws_FnStacks.l1] at H
                 by_cases c40 : x20_3 < x17_2
                 ·rw [if_pos c40] at H
                  have c40b0 : decide (x20_3 < x17_2) = true := decide_eq_true c40; clear c40
                  by_cases c41 : x19_3.length < 8796093022208
                  ·rw [if_pos c41] at H
                   have LMc41 := Aside0.mk c41; clear c41; obtain ⟨y467, hy467⟩ : ∃ y_ : List (S49), y_ = (x19_3 ++ [(⟨x20_3, 0⟩ : S49)]) := ⟨_, rfl⟩
                   replace H : (laws_FnStacks.l1 k3 t455 t458 x17_2 y467 (wrap64 (x20_3 + 1))) = some r := by first | (rw [hy467]; with_reducible exact H) | (have H2_ := (Option.bind_some _ _).symm.trans H; rw [hy467]; with_reducible exact H2_) | (have H2_ := (Option.bind_some _ _).symm.trans H; with_reducible exact H2_) | with_reducible exact H | (rw [hy467]; exact H) | exact H
                   have Ny467 := Aside0.mk hy467; clear hy467; have H' := Aside0.mk H; clear H
                   go_wp2_with (((with_reducible refine gate_builtin (b := .append) (xs := #[.tmp 131, .tmp 134]) rfl ?_); (try (refine gate_guard (by rfl) ?_; dsimp only)); at_builtin; refine Kd.R_append k49 (w0 := w) w.heap.size rfl (.tmp 131) (.tmp 134) 22 49 (.agg #[(.int .i64 0), (.int .i64 0)]) 16 rfl Try.underlying22 info49 rfl (by decide) (by omega) u19 x19_3 (⟨x20_3, 0⟩ : S49) [.int .i64 x20_3, .int .i64 0] (fun k_ => some k_ ≠ (.slice Ao31 t455.length co31 : Value).ownBlock) (fun _ => False) rfl rfl ?aP (fun _ hk => hk.elim) ?aF ?aO ?aB ?aS ?aL ?_; (case aP => exact k49_mkM _ _ _ (⟨x20_3, 0⟩ : S49)); (case aB => exact (by repeat ((with_reducible exact HB.out)))); (case aF => exact (fun k_ hk => Kd.fresh' (Kd.R_lt (by exact HO_12.out)) k_ hk)); (case aO => exact (by exact HO_19.out)); (case aS => exact (below_size (by repeat ((with_reducible exact HB.out))))); (case aL => have := LMc41.out; omega); intro v468 w42 ho hb hg hat; rw [← Ny467.out] at ho; have n0_ := Aside0.mk (Kd.R_after (ok := (fun _ => True)) (by exact Kd.R_mono HO_12.out (fun _ hk => ⟨trivial, hk⟩)) hg hat); have n1_ := Aside0.mk (hb); have n2_ := Aside0.mk (ho); clear HO_12; clear HB; clear HO_19; have HO_12 := n0_; have HB := n1_; have HO469 := n2_; clear n0_ n1_ n2_; clear ho hb hg hat))
                   go_roundg k3
                   case measure => have := HJ10.out; have := HK2.out; have := HK3.out; omega
                   case rel => exact ⟨(y467), (wrap64 (x20_3 + 1)), (by rfl), H', ⟨by have := HJ10.out; have := HK2.out; have := HK3.out; omega⟩, ⟨by exact Kd.R_mono HO_12.out (fun _ hk => hk.2)⟩, ⟨by exact HO469.out⟩, ⟨by repeat ((with_reducible exact HB.out))⟩⟩
                  ·rw [if_neg c41] at H
                   exact absurd H (by simp)
                 ·rw [if_neg c40] at H
                  have c40b0 : decide (x20_3 < x17_2) = false := decide_eq_false c40; clear c40; replace H := Option.bind_eq_some_iff.mp H; obtain ⟨⟨t470, t471, t472⟩, A430, H⟩ := H; replace H : (if t472 = true then (some (t471 == (t458 == 0))) else (none)) = some r := H; have A43 := Aside0.mk A430; clear A430
                  by_cases c44 : t472 = true
                  ·subst c44
                   have H1 : (some (t471 == (t458 == 0))) = some r := by rw [if_pos rfl] at H; exact H
                   clear H; have H := H1; clear H1; obtain rfl := Option.some.inj H; obtain ⟨Ao45, co45, eo45⟩ := Kd.R_slice HO_19.out; subst eo45
                   go_wp2_with (((with_reducible refine gate_callee (f := 21) rfl ?_); refine goesL_ (some 139) rfl rfl Try.func21 (by kernel_rfl) rfl #[.slice Ao45 x19_3.length co45, .slice Ao31 t455.length co31, .int .i64 0] rfl (by (try simp only [List.map_toArray, List.map_cons, List.map_nil]); rfl) ?_; (with_reducible refine (impl_StackBodies.calls k3 _ _ x19_3 _ _ t455 0 t470 t471 true _ ?side1 ?side2 ?side3 ?side4 A43.out).mono ?_); (case side1 => repeat (exact (Kd.R_reads' HO_19.out).2.2)); (case side2 => exact (Kd.R_reads' HO_19.out).2.1); (case side3 => repeat (exact (Kd.R_reads' HO_12.out).2.2)); (case side4 => exact (Kd.R_reads' HO_12.out).2.1); rintro e w46 ⟨v473, rfl, ho0, hb⟩; refine ⟨_, rfl, ?_⟩; have n0_ := Aside0.mk (Kd.R_elder' (by exact HO_12.out) (Kd.R_base ho0) hb); have n1_ := Aside0.mk (Kd.R_elder' (by exact HO_19.out) (Kd.R_base ho0) hb); have n2_ := Aside0.mk (Kd.R_lower (Kd.R_new' (Kd.R_new' ho0 (Kd.R_lt (by exact HO_12.out))) (Kd.R_lt (by exact HO_19.out))) (below_size (by repeat ((with_reducible exact HB.out))))); have n3_ := Aside0.mk (below_step (by repeat ((with_reducible exact HB.out))) hb); clear HO_12; clear HO_19; clear HB; have HO_12 := n0_; have HO_19 := n1_; have HO474 := n2_; have HB := n3_; clear n0_ n1_ n2_ n3_; (try clear hb); (try clear hb2); (try clear hk); (try clear hi); (try clear ho0)))
                   go_ret; exact ⟨by first | rfl | (simp [errW_none, errW_some] <;> rfl) | (simp [*, errW_none, errW_some] <;> rfl), by repeat ((with_reducible exact HB.out))⟩
                  ·replace c44 := Bool.eq_false_iff.mpr c44
                   subst c44
                   have H1 : (none) = some r := by rw [if_neg (show ¬ (false = true) by decide)] at H; exact H
                   clear H; have H := H1; clear H1; exact absurd H (by simp)
          ·replace c29 := Bool.eq_false_iff.mpr c29
           subst c29
           have H1 : (some true) = some r := by rw [if_neg (show ¬ (false = true) by decide)] at H; exact H
           clear H; have H := H1; clear H1; obtain rfl := Option.some.inj H
           go_wp2_with (first | ((with_reducible refine gate_callee (f := 35) rfl ?_); refine goesL_ (some 79) rfl rfl Try.func35 (by kernel_rfl) rfl #[.slice A0 l0.length c0] rfl (by (try simp only [List.map_toArray, List.map_cons, List.map_nil]); rfl) ?_; (with_reducible refine (spec_DrawIsBody.calls kj10 _ _ l0 t455 _ ?side1 ?side2 A24.out).mono ?_); (case side1 => repeat (exact (Kd.C_below HR0.out HB.out))); (case side2 => exact HC0.out); rintro e w47 ⟨v456, rfl, ho0, hb⟩; refine ⟨_, rfl, ?_⟩; have n0_ := Aside0.mk (Kd.R_lower ho0 (below_size (by repeat ((with_reducible exact HB.out))))); have n1_ := Aside0.mk (below_step (by repeat ((with_reducible exact HB.out))) hb); clear HB; have HO457 := n0_; have HB := n1_; clear n0_ n1_; (try clear hb); (try clear hb2); (try clear hk); (try clear hi); (try clear ho0); obtain ⟨Ao48, co48, eo48⟩ := Kd.R_slice HO457.out; subst eo48) | ((with_reducible refine gate_callee (f := 36) rfl ?_); refine goesL_ (some 82) rfl rfl Try.func36 (by kernel_rfl) rfl #[.slice Ao48 t455.length co48] rfl (by (try simp only [List.map_toArray, List.map_cons, List.map_nil]); rfl) ?_; (with_reducible refine (impl_BodySide.calls kj10 _ _ t455 t458 false _ ?side1 ?side2 A25.out).mono ?_); (case side1 => repeat (exact (Kd.R_reads' HO457.out).2.2)); (case side2 => exact (Kd.R_reads' HO457.out).2.1); rintro e w49 ⟨rfl, hb⟩; refine ⟨_, rfl, ?_⟩; have n0_ := Aside0.mk (Kd.R_below (by exact HO457.out) hb); have n1_ := Aside0.mk (below_step (by repeat ((with_reducible exact HB.out))) hb); clear HO457; clear HB; have HO457 := n0_; have HB := n1_; clear n0_ n1_; (try clear hb); (try clear hb2); (try clear hk); (try clear hi)) | ((with_reducible refine gate_callee (f := 37) rfl ?_); refine goesL_ (some 87) rfl rfl Try.func37 (by kernel_rfl) rfl #[.slice Ao48 t455.length co48] rfl (by (try simp only [List.map_toArray, List.map_cons, List.map_nil]); rfl) ?_; (with_reducible refine (spec_BodySide.calls kj10 _ _ t455 t460 t461 _ ?side1 ?side2 A26.out).mono ?_); (case side1 => repeat (exact (Kd.R_reads' HO457.out).2.2)); (case side2 => exact (Kd.R_reads' HO457.out).2.1); rintro e w50 ⟨rfl, hb⟩; refine ⟨_, rfl, ?_⟩; have n0_ := Aside0.mk (Kd.R_below (by exact HO457.out) hb); have n1_ := Aside0.mk (below_step (by repeat ((with_reducible exact HB.out))) hb); clear HO457; clear HB; have HO457 := n0_; have HB := n1_; clear n0_ n1_; (try clear hb); (try clear hb2); (try clear hk); (try clear hi)))
           go_ret; exact ⟨by first | rfl | (simp [errW_none, errW_some] <;> rfl) | (simp [*, errW_none, errW_some] <;> rfl), by repeat ((with_reducible exact HB.out))⟩
        ·rw [if_neg c27] at H
         exact absurd H (by simp)
    ·replace c10 := Bool.eq_false_iff.mpr c10
     subst c10
     have H1 : (none) = some r := by rw [if_neg (show ¬ (false = true) by decide)] at H; exact H
     clear H; have H := H1; clear H1; exact absurd H (by simp)

/-- THE ONE PURE STATEMENT of laws_FnStacks: yours. -/
def laws_FnStacks.Pure : Prop := ∀ (l0 : List Int), l0.length ≤ maxLen → l0.length * 1 ≤ 140737488351232 → (∀ x ∈ l0, (Lit.int .u8 x).wf = true) → ∃ k, laws_FnStacks.f k l0 = some true
theorem laws_FnStacks.walk (P : laws_FnStacks.Pure) (a0 : Option Addr) (len0 cap0 : Nat) (z0 : List Int) (w : World) (w0 : (a0 = none ∧ len0 = 0 ∧ cap0 = 0 ∧ z0 = []) ∨ ∃ x, a0 = some x ∧ len0 ≤ cap0 ∧ cap0 ≤ maxLen ∧ z0.length = cap0 ∧ (∀ i, i < z0.length → w.cell? (x.add i) = some (.int .u8 (z0.getD i 0))) ∧ ∀ n ∈ z0, (Lit.int .u8 n).wf = true) (y0 : len0 * 1 ≤ 140737488351232) :
  Calls Try.prog 9 #[.slice a0 len0 cap0] w fun e w' => e = .returned (.bool true) ∧ Below w.heap.size w w' := by
 obtain ⟨l0, rfl, hr0, hm0, hw0, hc0⟩ := ReadsInt.ofRowC w0; obtain ⟨k, h⟩ := P l0 hm0 y0 hw0; refine (laws_FnStacks.calls k _ _ l0 true w (Kd.C_of_reads (d := (0 : Int)) (h1 := fun _ => rfl) hr0) hc0 h).mono ?_
 rintro e w' ⟨rfl, hd⟩
 exact ⟨rfl, hd⟩

end Go.Proofs.Ytckhmeadflafaaa.XFs
