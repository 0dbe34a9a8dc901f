/- Functions of the program as plain Lean functions, each with the proof that the machine's call does what it says: written by a program of this session out of the translation. -/
import Derived.Test.YtckhmeadflafaaaXSkx0
namespace Go.Proofs.Ytckhmeadflafaaa.XSk
open Go.RowKit Go.Proofs.YtckhmeadflafaaaW.PrintWords Go.Proofs.YtckhmeadflafaaaW.PrintLast Go.Proofs.YtckhmeadflafaaaW.PrintMore
attribute [local go_sem] max2_int min2_int max_two min_two max_three min_three max_four min_four   -- for this text's walks alone
set_option linter.unusedVariables false
set_option linter.unusedSimpArgs false

/-! ### spec_l8Middle_0: function 67 -/
def spec_l8Middle_0.l0 : Nat → List (S49) → Int → Int → Option (Int)
 | 0, _, _, _ => none
 | k + 1, x0, x5, x6 => if x6 < (x0.length : Int) then (if 0 ≤ x6 then (spec_l8Middle_0.l0 k x0 (wrap64 ((wrap64 (x5 + (wrap64 (2 * ((rd_T49 x0 x6).f0))))) + 1)) (wrap64 (x6 + 1))) else (none)) else (some x5)
def spec_l8Middle_0.f (k : Nat) (l0 : List (S49)) : Option (Int) := spec_l8Middle_0.l0 k l0 0 0
theorem spec_l8Middle_0.mono_l : ∀ k, (∀ y0 y1 y2, LeO (spec_l8Middle_0.l0 k y0 y1 y2) (spec_l8Middle_0.l0 (k + 1) y0 y1 y2))
 | 0 => fun _ _ _ r h => by simp [spec_l8Middle_0.l0] at h
 | k + 1 => by
  have ih0 := spec_l8Middle_0.mono_l k
  ·intro y0 y1 y2
   unfold spec_l8Middle_0.l0
   repeat' first
   | (with_reducible exact ih0 _ _ _)
   | (with_reducible exact LeO.refl _)
   | (with_reducible exact LeO.none _)
   | (with_reducible refine LeO.ite ?_ ?_)
   | (with_reducible refine LeO.bind ?_ (fun _ => ?_))
theorem spec_l8Middle_0.mono : ∀ a0 k, LeO (spec_l8Middle_0.f k a0) (spec_l8Middle_0.f (k + 1) a0) := by
 intro a0 k; have ih0 := spec_l8Middle_0.mono_l k
 unfold spec_l8Middle_0.f
 repeat' first
   | (with_reducible exact ih0 _ _ _)
   | (with_reducible exact LeO.refl _)
   | (with_reducible exact LeO.none _)
   | (with_reducible refine LeO.ite ?_ ?_)
   | (with_reducible refine LeO.bind ?_ (fun _ => ?_))
set_option maxHeartbeats 8000000 in
set_option maxRecDepth 100000 in
theorem spec_l8Middle_0.calls (k : Nat) (A0 : Option Addr) (c0 : Nat) (l0 : List (S49)) (r : Int) (w : World) (hr0 : Kd.C k49 w A0 l0.length l0) (hc0 : l0.length ≤ c0) (h : spec_l8Middle_0.f k l0 = some r) :
  Calls Try.prog 67 #[.slice A0 l0.length c0, .int .i64 0] w fun e w' => e = .returned (.int .i64 r) ∧ Drawn0 w w' := by
 have HR0 := Aside0.mk hr0; have HC0 := Aside0.mk hc0; clear hr0 hc0; have H : (spec_l8Middle_0.l0 k l0 0 0) = some r := h; clear h; have H' := Aside0.mk H; clear H
 go_enter Try.func67, Try.ntmps67
 go_wp2
 go_loopg [5, 6] k (fun kq v5 v6 w' => ∃ (x5_1 : Int) (x6_1 : Int), v5 = .int .i64 x5_1 ∧ v6 = .int .i64 x6_1 ∧ Aside0 (spec_l8Middle_0.l0 kq l0 x5_1 x6_1 = some r) ∧ Aside0 (kq ≤ k) ∧ Drawn0 w w')
 case atStart => exact ⟨(0), (0), (by first | rfl | (simp; done) | (simp [*]; done)), (by first | rfl | (simp; done) | (simp [*]; done)), H', ⟨Nat.le_refl _⟩, by repeat (first | exact Drawn0.refl _ | apply Drawn0.step)⟩
 case round =>
  clear H'; obtain ⟨x5_1, x6_1, rfl, rfl, HA, HK1, ⟨m1, rfl⟩⟩ := hrel
  cases gk with
  | zero => exact absurd HA.out (by simp [spec_l8Middle_0.l0])
  | succ k1 =>
   have H := HA.out; clear HA; simp only [spec_l8Middle_0.l0] at H
   by_cases c2 : x6_1 < (l0.length : Int)
   ·rw [if_pos c2] at H
    have c2b0 : decide (x6_1 < (l0.length : Int)) = true := decide_eq_true c2; clear c2
    by_cases c3 : 0 ≤ x6_1
    ·rw [if_pos c3] at H
     have c3b0 : decide (0 ≤ x6_1) = true := decide_eq_true c3; clear c3; have H' := Aside0.mk H; clear H; have p150 : 0 ≤ (x6_1 : Int) := of_decide_eq_true (by first | (with_reducible assumption) | assumption); have q150 : x6_1 < (l0.length : Int) := of_decide_eq_true (by first | (with_reducible assumption) | assumption); obtain ⟨ad150, e150, hx150_0, hx150_1⟩ := at_T49 HR0.out x6_1 p150 q150; cases e150; replace p150 := eq_true p150; replace q150 := eq_true q150; go_wp2; go_roundg k1
     case measure => have := HK1.out; omega
     case rel => exact ⟨(wrap64 ((wrap64 (x5_1 + (wrap64 (2 * ((rd_T49 l0 x6_1).f0))))) + 1)), (wrap64 (x6_1 + 1)), (by first | rfl | (simp; done) | (simp [*]; done)), (by first | rfl | (simp; done) | (simp [*]; done)), H', ⟨by have := HK1.out; omega⟩, by repeat (first | exact Drawn0.refl _ | apply Drawn0.step)⟩
    ·rw [if_neg c3] at H
     exact absurd H (by simp)
   ·rw [if_neg c2] at H
    have c2b0 : decide (x6_1 < (l0.length : Int)) = false := decide_eq_false c2; clear c2; obtain rfl := Option.some.inj H; go_wp2; go_ret; exact ⟨by first | rfl | (simp; done) | (simp [*]; done), by repeat (first | exact Drawn0.refl _ | apply Drawn0.step)⟩

/-! ### spec_l8Over: function 66 -/
def spec_l8Over.f (a0 : Int) (a1 : Int) (a2 : Int) (a3 : Int) : Option (Int) := if a0 < (wrap64 ((wrap64 (2 * a1)) * a2)) then (some (-1)) else (if a0 > (wrap64 ((wrap64 (2 * a1)) * a3)) then (some 1) else (some 0))
set_option maxHeartbeats 8000000 in
set_option maxRecDepth 100000 in
theorem spec_l8Over.calls (a0 : Int) (a1 : Int) (a2 : Int) (a3 : Int) (r : Int) (w : World) (h : spec_l8Over.f a0 a1 a2 a3 = some r) :
  Calls Try.prog 66 #[.int .i64 a0, .int .i64 a1, .int .i64 a2, .int .i64 a3] w fun e w' => e = .returned (.int .i64 r) ∧ Drawn0 w w' := by
 have H : (if a0 < (wrap64 ((wrap64 (2 * a1)) * a2)) then (some (-1)) else (if a0 > (wrap64 ((wrap64 (2 * a1)) * a3)) then (some 1) else (some 0))) = some r := h; clear h
 by_cases c5 : a0 < (wrap64 ((wrap64 (2 * a1)) * a2))
 ·rw [if_pos c5] at H
  have c5b0 : decide (a0 < (wrap64 ((wrap64 (2 * a1)) * a2))) = true := decide_eq_true c5; clear c5; obtain rfl := Option.some.inj H
  go_enter Try.func66, Try.ntmps66
  go_wp2; go_ret; exact ⟨by first | rfl | (simp; done) | (simp [*]; done), by repeat (first | exact Drawn0.refl _ | apply Drawn0.step)⟩
 ·rw [if_neg c5] at H
  have c5b0 : decide (a0 < (wrap64 ((wrap64 (2 * a1)) * a2))) = false := decide_eq_false c5; clear c5
  by_cases c6 : a0 > (wrap64 ((wrap64 (2 * a1)) * a3))
  ·rw [if_pos c6] at H
   have c6b0 : decide ((wrap64 ((wrap64 (2 * a1)) * a3)) < a0) = true := decide_eq_true c6; clear c6; obtain rfl := Option.some.inj H
   go_enter Try.func66, Try.ntmps66
   go_wp2; go_ret; exact ⟨by first | rfl | (simp; done) | (simp [*]; done), by repeat (first | exact Drawn0.refl _ | apply Drawn0.step)⟩
  ·rw [if_neg c6] at H
   have c6b0 : decide ((wrap64 ((wrap64 (2 * a1)) * a3)) < a0) = false := decide_eq_false c6; clear c6; obtain rfl := Option.some.inj H
   go_enter Try.func66, Try.ntmps66
   go_wp2; go_ret; exact ⟨by first | rfl | (simp; done) | (simp [*]; done), by repeat (first | exact Drawn0.refl _ | apply Drawn0.step)⟩

end Go.Proofs.Ytckhmeadflafaaa.XSk
