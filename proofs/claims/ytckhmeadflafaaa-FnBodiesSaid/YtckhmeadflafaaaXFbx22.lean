/- Functions of the program as plain Lean functions, each with the proof that the machine's call does what it says: written by a program of this session out of the translation. -/
import Derived.Test.YtckhmeadflafaaaXFbx0
import Derived.Test.YtckhmeadflafaaaXFbx11
import Derived.Test.YtckhmeadflafaaaXFbx12
import Derived.Test.YtckhmeadflafaaaXFbx21
namespace Go.Proofs.Ytckhmeadflafaaa.XFb
open Go.RowKit Go.Proofs.YtckhmeadflafaaaW.PrintWords Go.Proofs.YtckhmeadflafaaaW.PrintLast Go.Proofs.YtckhmeadflafaaaW.PrintMore
attribute [local go_sem] max2_int min2_int max_two min_two max_three min_three max_four min_four   -- for this text's walks alone
set_option linter.unusedVariables false
set_option linter.unusedSimpArgs false

/-! ### impl_TumbleBody: function 24 -/
def impl_TumbleBody.l0 : Nat → List (S49) → Int → Option ((List (S49)) × Int × Bool)
 | 0, _, _ => none
 | k + 1, x5, x13 => if x13 < 5 then ((impl_bodySide.f k x5).bind fun t439 => (if t439 = 0 then (some (x5, x13, true)) else ((impl_turnBody.f k x5 t439).bind fun t440 => (impl_TumbleBody.l0 k t440 (wrap64 (x13 + 1)))))) else (some (([] : List (S49)), 0, false))
def impl_TumbleBody.f (k : Nat) (l0 : List (S49)) : Option ((List (S49)) × Int × Bool) := (impl_IsBody.f k l0).bind fun t435 => (if t435 = true then ((slices_Clone.f l0).bind fun t436 => (impl_TumbleBody.l0 k t436 0)) else (some (([] : List (S49)), 0, false)))
theorem impl_TumbleBody.mono_l : ∀ k, (∀ y0 y1, LeO (impl_TumbleBody.l0 k y0 y1) (impl_TumbleBody.l0 (k + 1) y0 y1))
 | 0 => fun _ _ r h => by simp [impl_TumbleBody.l0] at h
 | k + 1 => by
  have ih0 := impl_TumbleBody.mono_l k
  ·intro y0 y1
   unfold impl_TumbleBody.l0
   repeat' first
   | (with_reducible exact ih0 _ _)
   | (with_reducible exact impl_IsBody.mono _ _)
   | (with_reducible exact impl_bodySide.mono _ _)
   | (with_reducible exact impl_turnBody.mono _ _ _)
   | (with_reducible exact LeO.refl _)
   | (with_reducible exact LeO.none _)
   | (with_reducible refine LeO.ite ?_ ?_)
   | (with_reducible refine LeO.bind ?_ (fun _ => ?_))
theorem impl_TumbleBody.mono : ∀ a0 k, LeO (impl_TumbleBody.f k a0) (impl_TumbleBody.f (k + 1) a0) := by
 intro a0 k; have ih0 := impl_TumbleBody.mono_l k
 unfold impl_TumbleBody.f
 repeat' first
   | (with_reducible exact ih0 _ _)
   | (with_reducible exact impl_IsBody.mono _ _)
   | (with_reducible exact impl_bodySide.mono _ _)
   | (with_reducible exact impl_turnBody.mono _ _ _)
   | (with_reducible exact LeO.refl _)
   | (with_reducible exact LeO.none _)
   | (with_reducible refine LeO.ite ?_ ?_)
   | (with_reducible refine LeO.bind ?_ (fun _ => ?_))
set_option maxHeartbeats 8000000 in
set_option maxRecDepth 100000 in
theorem impl_TumbleBody.calls (k : Nat) (A0 : Option Addr) (c0 : Nat) (l0 : List (S49)) (r1 : List (S49)) (r2 : Int) (r3 : Bool) (w : World) (hr0 : Kd.C k49 w A0 l0.length l0) (hc0 : l0.length ≤ c0) (h : impl_TumbleBody.f k l0 = some (r1, r2, r3)) :
  Calls Try.prog 24 #[.slice A0 l0.length c0] w fun e w' => ∃ v0_ : Value, e = .returned (.tuple #[v0_, .int .i64 r2, .bool r3]) ∧ Kd.R k49 49 w' w.heap.size (fun _ => True) v0_ r1 ∧ Below w.heap.size w w' := by
 have HR0 := ak hr0; have HC0 := ak hc0; clear hr0 hc0; have HB := ak (Below.refl w.heap.size w); have H : ((impl_IsBody.f k l0).bind fun t435 => (if t435 = true then ((slices_Clone.f l0).bind fun t436 => (impl_TumbleBody.l0 k t436 0)) else (some (([] : List (S49)), 0, false)))) = some (r1, r2, r3) := h; clear h; obtain ⟨t435, A20, H⟩ := Option.bind_eq_some_iff.mp H
 have A2 := ak A20; clear A20
 by_cases c3 : t435 = true
 ·subst c3
  rw [if_pos rfl] at H; obtain ⟨t436, A40, H⟩ := Option.bind_eq_some_iff.mp H
  have A4 := ak A40; clear A40; have H' := ak H; clear H
  go_enter Try.func24, Try.ntmps24
  go_wp2_with (first | ((with_reducible refine gate_callee (f := 34) rfl ?_); refine goesL_ (some 9) rfl rfl Try.func34 (by kernel_rfl) rfl #[.slice A0 l0.length c0] rfl aq ?_; (with_reducible refine (impl_IsBody.calls k _ _ l0 true _ ?side1 ?side2 A2.out).mono ?_); (case side1 => exact cq HR0.out); (case side2 => exact HC0.out); rintro e w5 ⟨rfl, hb⟩; refine ⟨_, rfl, ?_⟩; have n0_ := ak (below_step bq hb); clear HB; have HB := n0_; clear n0_; (try clear hb)) | ((with_reducible refine gate_callee (f := 70) rfl ?_); refine goesL_ (some 12) rfl rfl Try.func70 (by kernel_rfl) rfl #[.slice A0 l0.length c0] rfl aq ?_; (with_reducible refine (slices_Clone.calls _ _ l0 t436 _ ?side1 ?side2 A4.out).mono ?_); (case side1 => exact cq (Kd.C_below HR0.out HB.out)); (case side2 => exact HC0.out); rintro e w6 ⟨v437, rfl, ho0, hb⟩; refine ⟨_, rfl, ?_⟩; have n0_ := ak (Kd.R_lower ho0 (below_size bq)); have n1_ := ak (below_step bq hb); clear HB; have HO438 := n0_; have HB := n1_; clear n0_ n1_; (try clear hb); (try clear ho0)))
  go_loopg [5, 13] k (fun kq v5 v13 w' => ∃ (x5_1 : List (S49)) (x13_1 : Int), v13 = .int .i64 x13_1 ∧ Aside0 (impl_TumbleBody.l0 kq x5_1 x13_1 = some (r1, r2, r3)) ∧ Aside0 (kq ≤ k) ∧ Aside0 (Kd.R k49 49 w' w.heap.size (fun _ => True) v5 x5_1) ∧ Aside0 (Below w.heap.size w w'))
  case atStart => exact ⟨(t436), (0), sq, H', ⟨Nat.le_refl _⟩, ⟨rq HO438⟩, ⟨bq⟩⟩
  case round =>
   clear H'; obtain ⟨x5_1, x13_1, rfl, HA, HK1, HO_5, HB⟩ := hrel
   cases gk with
   | zero => exact absurd HA.out (by simp [impl_TumbleBody.l0])
   | succ k1 =>
    have H := HA.out; clear HA; simp only [impl_TumbleBody.l0] at H
    by_cases c7 : x13_1 < 5
    ·rw [if_pos c7] at H
     have c7b0 := decide_eq_true c7; clear c7; obtain ⟨t439, A80, H⟩ := Option.bind_eq_some_iff.mp H
     have A8 := ak A80; clear A80
     by_cases c9 : t439 = 0
     ·rw [if_pos c9] at H
      have c9b0 : (t439 == 0) = true := beq_iff_eq.mpr c9; have c9b1 : (t439 != 0) = false := bne_eq_false_iff_eq.mpr c9; clear c9; simp only [Option.some.injEq, Prod.mk.injEq] at H; obtain ⟨rfl, rfl, rfl⟩ := H; obtain ⟨Ao10, co10, eo10⟩ := Kd.R_slice HO_5.out; subst eo10
      go_wp2_with (((with_reducible refine gate_callee (f := 76) rfl ?_); refine goesL_ (some 17) rfl rfl Try.func76 (by kernel_rfl) rfl #[.slice Ao10 x5_1.length co10] rfl aq ?_; (with_reducible refine (impl_bodySide.calls k1 _ _ x5_1 t439 _ ?side1 ?side2 A8.out).mono ?_); (case side1 => exact cq (Kd.R_reads' HO_5.out).2.2); (case side2 => exact (Kd.R_reads' HO_5.out).2.1); rintro e w11 ⟨rfl, hb⟩; refine ⟨_, rfl, ?_⟩; have n0_ := ak (Kd.R_below (rq HO_5) hb); have n1_ := ak (below_step bq hb); clear HO_5; clear HB; have HO_5 := n0_; have HB := n1_; clear n0_ n1_; (try clear hb)))
      go_ret3
      exact ⟨_, eq_, rq HO_5, bq⟩
     ·rw [if_neg c9] at H
      have c9b0 : (t439 == 0) = false := beq_eq_false_iff_ne.mpr c9; have c9b1 : (t439 != 0) = true := bne_iff_ne.mpr c9; obtain ⟨t440, A120, H⟩ := Option.bind_eq_some_iff.mp H
      have A12 := ak A120; clear A120; have H' := ak H; clear H; obtain ⟨Ao13, co13, eo13⟩ := Kd.R_slice HO_5.out; subst eo13
      go_wp2_with (first | ((with_reducible refine gate_callee (f := 76) rfl ?_); refine goesL_ (some 17) rfl rfl Try.func76 (by kernel_rfl) rfl #[.slice Ao13 x5_1.length co13] rfl aq ?_; (with_reducible refine (impl_bodySide.calls k1 _ _ x5_1 t439 _ ?side1 ?side2 A8.out).mono ?_); (case side1 => exact cq (Kd.R_reads' HO_5.out).2.2); (case side2 => exact (Kd.R_reads' HO_5.out).2.1); rintro e w14 ⟨rfl, hb⟩; refine ⟨_, rfl, ?_⟩; have n0_ := ak (Kd.R_below (rq HO_5) hb); have n1_ := ak (below_step bq hb); clear HO_5; clear HB; have HO_5 := n0_; have HB := n1_; clear n0_ n1_; (try clear hb)) | ((with_reducible refine gate_callee (f := 77) rfl ?_); refine goesL_ (some 24) rfl rfl Try.func77 (by kernel_rfl) rfl #[.slice Ao13 x5_1.length co13, .int .i64 t439] rfl aq ?_; (with_reducible refine (impl_turnBody.calls k1 _ _ x5_1 t439 t440 _ ?side1 ?side2 A12.out).mono ?_); (case side1 => exact cq (Kd.R_reads' HO_5.out).2.2); (case side2 => exact (Kd.R_reads' HO_5.out).2.1); rintro e w15 ⟨v441, rfl, ho0, hb⟩; refine ⟨_, rfl, ?_⟩; have n0_ := ak (Kd.R_elder' (rq HO_5) (Kd.R_base ho0) hb); have n1_ := ak (Kd.R_lower (Kd.R_new' ho0 (Kd.R_lt (rq HO_5))) (below_size bq)); have n2_ := ak (below_step bq hb); clear HO_5; clear HB; have HO_5 := n0_; have HO442 := n1_; have HB := n2_; clear n0_ n1_ n2_; (try clear hb); (try clear ho0)))
      go_roundg k1
      case measure => have := HK1.out; omega
      case rel => exact ⟨(t440), (wrap64 (x13_1 + 1)), sq, H', ⟨by have := HK1.out; omega⟩, ⟨by exact Kd.R_mono HO442.out (fun _ hk => trivial)⟩, ⟨bq⟩⟩
    ·rw [if_neg c7] at H
     have c7b0 := decide_eq_false c7; clear c7; simp only [Option.some.injEq, Prod.mk.injEq] at H; obtain ⟨rfl, rfl, rfl⟩ := H; go_wp2
     go_ret3
     exact ⟨_, eq_, by first | exact Kd.R_nil _ _ _ _ _ | exact Kd.N_nil _ _ _ _ _ | exact Kd.V_nil _ _ _ _ _ | exact Kd.Q_nil _ _ _ _ _ | exact Kd.S_nil _ _ _ _ _, bq⟩
 ·replace c3 := Bool.eq_false_iff.mpr c3
  subst c3; rw [if_neg (show ¬ (false = true) by decide)] at H; simp only [Option.some.injEq, Prod.mk.injEq] at H; obtain ⟨rfl, rfl, rfl⟩ := H
  go_enter Try.func24, Try.ntmps24
  go_wp2_with (((with_reducible refine gate_callee (f := 34) rfl ?_); refine goesL_ (some 9) rfl rfl Try.func34 (by kernel_rfl) rfl #[.slice A0 l0.length c0] rfl aq ?_; (with_reducible refine (impl_IsBody.calls k _ _ l0 false _ ?side1 ?side2 A2.out).mono ?_); (case side1 => exact cq HR0.out); (case side2 => exact HC0.out); rintro e w16 ⟨rfl, hb⟩; refine ⟨_, rfl, ?_⟩; have n0_ := ak (below_step bq hb); clear HB; have HB := n0_; clear n0_; (try clear hb)))
  go_ret3
  exact ⟨_, eq_, by first | exact Kd.R_nil _ _ _ _ _ | exact Kd.N_nil _ _ _ _ _ | exact Kd.V_nil _ _ _ _ _ | exact Kd.Q_nil _ _ _ _ _ | exact Kd.S_nil _ _ _ _ _, bq⟩

end Go.Proofs.Ytckhmeadflafaaa.XFb
