/- Functions of the program as plain Lean functions, each with the proof that the machine's call does what it says: written by a program of this session out of the translation. -/
import Derived.Test.YtckhmeadflafaaaXCbx0
namespace Go.Proofs.Ytckhmeadflafaaa.XCb
open Go.RowKit Go.Proofs.YtckhmeadflafaaaW.PrintWords Go.Proofs.YtckhmeadflafaaaW.PrintLast Go.Proofs.YtckhmeadflafaaaW.PrintMore
attribute [local go_sem] max2_int min2_int max_two min_two max_three min_three max_four min_four   -- for this text's walks alone
set_option linter.unusedVariables false
set_option linter.unusedSimpArgs false

/-! ### spec_l8Ground: function 101 -/
def spec_l8Ground.l0 : Nat → List (S49) → Int → Int → Int → Option (Int × Int)
 | 0, _, _, _, _ => none
 | k + 1, x0, x4, x5, x6 => if x6 < (x0.length : Int) then (if 0 ≤ x6 then (if ((rd_T49 x0 x6).f1) = 0 then (if x4 < 0 then (spec_l8Ground.l0 k x0 ((rd_T49 x0 x6).f0) (wrap64 (((rd_T49 x0 x6).f0) + 1)) (wrap64 (x6 + 1))) else (spec_l8Ground.l0 k x0 x4 (wrap64 (((rd_T49 x0 x6).f0) + 1)) (wrap64 (x6 + 1)))) else (spec_l8Ground.l0 k x0 x4 x5 (wrap64 (x6 + 1)))) else (none)) else (some (x4, x5))
def spec_l8Ground.f (k : Nat) (l0 : List (S49)) : Option (Int × Int) := spec_l8Ground.l0 k l0 (-1) (-1) 0
theorem spec_l8Ground.mono_l : ∀ k, (∀ y0 y1 y2 y3, LeO (spec_l8Ground.l0 k y0 y1 y2 y3) (spec_l8Ground.l0 (k + 1) y0 y1 y2 y3))
 | 0 => fun _ _ _ _ r h => by simp [spec_l8Ground.l0] at h
 | k + 1 => by
  have ih0 := spec_l8Ground.mono_l k
  ·intro y0 y1 y2 y3
   unfold spec_l8Ground.l0
   repeat' first
   | (with_reducible exact ih0 _ _ _ _)
   | (with_reducible exact LeO.refl _)
   | (with_reducible exact LeO.none _)
   | (with_reducible refine LeO.ite ?_ ?_)
   | (with_reducible refine LeO.bind ?_ (fun _ => ?_))
theorem spec_l8Ground.mono : ∀ a0 k, LeO (spec_l8Ground.f k a0) (spec_l8Ground.f (k + 1) a0) := by
 intro a0 k; have ih0 := spec_l8Ground.mono_l k
 unfold spec_l8Ground.f
 repeat' first
   | (with_reducible exact ih0 _ _ _ _)
   | (with_reducible exact LeO.refl _)
   | (with_reducible exact LeO.none _)
   | (with_reducible refine LeO.ite ?_ ?_)
   | (with_reducible refine LeO.bind ?_ (fun _ => ?_))
set_option maxHeartbeats 8000000 in
set_option maxRecDepth 100000 in
theorem spec_l8Ground.calls (k : Nat) (A0 : Option Addr) (c0 : Nat) (l0 : List (S49)) (r1 : Int) (r2 : Int) (w : World) (hr0 : Kd.C k49 w A0 l0.length l0) (hc0 : l0.length ≤ c0) (h : spec_l8Ground.f k l0 = some (r1, r2)) :
  Calls Try.prog 101 #[.slice A0 l0.length c0] w fun e w' => e = .returned (.tuple #[.int .i64 r1, .int .i64 r2]) ∧ Drawn0 w w' := by
 have HR0 := ak hr0; have HC0 := ak hc0; clear hr0 hc0; have H : (spec_l8Ground.l0 k l0 (-1) (-1) 0) = some (r1, r2) := h; clear h; have H' := ak H; clear H
 go_enter Try.func101, Try.ntmps101
 go_wp2
 go_loopg [4, 5, 6] k (fun kq v4 v5 v6 w' => ∃ (x4_1 : Int) (x5_1 : Int) (x6_1 : Int), v4 = .int .i64 x4_1 ∧ v5 = .int .i64 x5_1 ∧ v6 = .int .i64 x6_1 ∧ Aside0 (spec_l8Ground.l0 kq l0 x4_1 x5_1 x6_1 = some (r1, r2)) ∧ Aside0 (kq ≤ k) ∧ Drawn0 w w')
 case atStart => exact ⟨((-1)), ((-1)), (0), sq, sq, sq, H', ⟨Nat.le_refl _⟩, by repeat (first | exact Drawn0.refl _ | apply Drawn0.step)⟩
 case round =>
  clear H'; (try clear c1); obtain ⟨x4_1, x5_1, x6_1, rfl, rfl, rfl, HA, HK1, ⟨m1, rfl⟩⟩ := hrel
  cases gk with
  | zero => exact absurd HA.out (by simp [spec_l8Ground.l0])
  | succ k1 =>
   have H := HA.out; clear HA; simp only [spec_l8Ground.l0] at H
   by_cases c2 : x6_1 < (l0.length : Int)
   ·rw [if_pos c2] at H
    have c2b0 := decide_eq_true c2; clear c2
    by_cases c3 : 0 ≤ x6_1
    ·rw [if_pos c3] at H
     have c3b0 := decide_eq_true c3; clear c3
     by_cases c4 : ((rd_T49 l0 x6_1).f1) = 0
     ·rw [if_pos c4] at H
      have c4b0 : (((rd_T49 l0 x6_1).f1) == 0) = true := beq_iff_eq.mpr c4; have c4b1 : (((rd_T49 l0 x6_1).f1) != 0) = false := bne_eq_false_iff_eq.mpr c4; clear c4
      by_cases c5 : x4_1 < 0
      ·rw [if_pos c5] at H
       have c5b0 := decide_eq_true c5; clear c5; have H' := ak H; clear H; have p279 : 0 ≤ (x6_1 : Int) := dq; have q279 : x6_1 < (l0.length : Int) := dq; obtain ⟨ad279, e279, hx279_0, hx279_1⟩ := at_T49 HR0.out x6_1 p279 q279; cases e279; replace p279 := eq_true p279; replace q279 := eq_true q279; have p280 : 0 ≤ (x6_1 : Int) := dq; have q280 : x6_1 < (l0.length : Int) := dq; obtain ⟨ad280, e280, hx280_0, hx280_1⟩ := at_T49 HR0.out x6_1 p280 q280; obtain rfl : ad279 = ad280 := (by injection e280); replace p280 := eq_true p280; replace q280 := eq_true q280; have p281 : 0 ≤ (x6_1 : Int) := dq; have q281 : x6_1 < (l0.length : Int) := dq; obtain ⟨ad281, e281, hx281_0, hx281_1⟩ := at_T49 HR0.out x6_1 p281 q281; obtain rfl : ad279 = ad281 := (by injection e281); replace p281 := eq_true p281; replace q281 := eq_true q281; go_wp2; go_roundg k1
       case measure => have := HK1.out; omega
       case rel => exact ⟨((rd_T49 l0 x6_1).f0), (wrap64 (((rd_T49 l0 x6_1).f0) + 1)), (wrap64 (x6_1 + 1)), sq, sq, sq, H', ⟨by have := HK1.out; omega⟩, by repeat (first | exact Drawn0.refl _ | apply Drawn0.step)⟩
      ·rw [if_neg c5] at H
       have c5b0 := decide_eq_false c5; clear c5; have H' := ak H; clear H; have p279 : 0 ≤ (x6_1 : Int) := dq; have q279 : x6_1 < (l0.length : Int) := dq; obtain ⟨ad279, e279, hx279_0, hx279_1⟩ := at_T49 HR0.out x6_1 p279 q279; cases e279; replace p279 := eq_true p279; replace q279 := eq_true q279; have p282 : 0 ≤ (x6_1 : Int) := dq; have q282 : x6_1 < (l0.length : Int) := dq; obtain ⟨ad282, e282, hx282_0, hx282_1⟩ := at_T49 HR0.out x6_1 p282 q282; obtain rfl : ad279 = ad282 := (by injection e282); replace p282 := eq_true p282; replace q282 := eq_true q282; go_wp2; go_roundg k1
       case measure => have := HK1.out; omega
       case rel => exact ⟨(x4_1), (wrap64 (((rd_T49 l0 x6_1).f0) + 1)), (wrap64 (x6_1 + 1)), sq, sq, sq, H', ⟨by have := HK1.out; omega⟩, by repeat (first | exact Drawn0.refl _ | apply Drawn0.step)⟩
     ·rw [if_neg c4] at H
      have c4b0 : (((rd_T49 l0 x6_1).f1) == 0) = false := beq_eq_false_iff_ne.mpr c4; have c4b1 : (((rd_T49 l0 x6_1).f1) != 0) = true := bne_iff_ne.mpr c4; have H' := ak H; clear H; have p279 : 0 ≤ (x6_1 : Int) := dq; have q279 : x6_1 < (l0.length : Int) := dq; obtain ⟨ad279, e279, hx279_0, hx279_1⟩ := at_T49 HR0.out x6_1 p279 q279; cases e279; replace p279 := eq_true p279; replace q279 := eq_true q279; go_wp2; go_roundg k1
      case measure => have := HK1.out; omega
      case rel => exact ⟨(x4_1), (x5_1), (wrap64 (x6_1 + 1)), sq, sq, sq, H', ⟨by have := HK1.out; omega⟩, by repeat (first | exact Drawn0.refl _ | apply Drawn0.step)⟩
    ·rw [if_neg c3] at H
     exact absurd H (by simp)
   ·rw [if_neg c2] at H
    have c2b0 := decide_eq_false c2; clear c2; simp only [Option.some.injEq, Prod.mk.injEq] at H; obtain ⟨rfl, rfl⟩ := H; go_wp2
    go_ret2
    exact ⟨sq, by repeat (first | exact Drawn0.refl _ | apply Drawn0.step)⟩

/-! ### spec_l8Middle_0: function 67 -/
def spec_l8Middle_0.l0 : Nat → List (S49) → Int → Int → Option (Int)
 | 0, _, _, _ => none
 | k + 1, x0, x5, x6 => if x6 < (x0.length : Int) then (if 0 ≤ x6 then (spec_l8Middle_0.l0 k x0 (wrap64 ((wrap64 (x5 + (wrap64 (2 * ((rd_T49 x0 x6).f0))))) + 1)) (wrap64 (x6 + 1))) else (none)) else (some x5)
def spec_l8Middle_0.f (k : Nat) (l0 : List (S49)) : Option (Int) := spec_l8Middle_0.l0 k l0 0 0
theorem spec_l8Middle_0.mono_l : ∀ k, (∀ y0 y1 y2, LeO (spec_l8Middle_0.l0 k y0 y1 y2) (spec_l8Middle_0.l0 (k + 1) y0 y1 y2))
 | 0 => fun _ _ _ r h => by simp [spec_l8Middle_0.l0] at h
 | k + 1 => by
  have ih0 := spec_l8Middle_0.mono_l k
  ·intro y0 y1 y2
   unfold spec_l8Middle_0.l0
   repeat' first
   | (with_reducible exact ih0 _ _ _)
   | (with_reducible exact LeO.refl _)
   | (with_reducible exact LeO.none _)
   | (with_reducible refine LeO.ite ?_ ?_)
   | (with_reducible refine LeO.bind ?_ (fun _ => ?_))
theorem spec_l8Middle_0.mono : ∀ a0 k, LeO (spec_l8Middle_0.f k a0) (spec_l8Middle_0.f (k + 1) a0) := by
 intro a0 k; have ih0 := spec_l8Middle_0.mono_l k
 unfold spec_l8Middle_0.f
 repeat' first
   | (with_reducible exact ih0 _ _ _)
   | (with_reducible exact LeO.refl _)
   | (with_reducible exact LeO.none _)
   | (with_reducible refine LeO.ite ?_ ?_)
   | (with_reducible refine LeO.bind ?_ (fun _ => ?_))
set_option maxHeartbeats 8000000 in
set_option maxRecDepth 100000 in
theorem spec_l8Middle_0.calls (k : Nat) (A0 : Option Addr) (c0 : Nat) (l0 : List (S49)) (r : Int) (w : World) (hr0 : Kd.C k49 w A0 l0.length l0) (hc0 : l0.length ≤ c0) (h : spec_l8Middle_0.f k l0 = some r) :
  Calls Try.prog 67 #[.slice A0 l0.length c0, .int .i64 0] w fun e w' => e = .returned (.int .i64 r) ∧ Drawn0 w w' := by
 have HR0 := ak hr0; have HC0 := ak hc0; clear hr0 hc0; have H : (spec_l8Middle_0.l0 k l0 0 0) = some r := h; clear h; have H' := ak H; clear H
 go_enter Try.func67, Try.ntmps67
 go_wp2
 go_loopg [5, 6] k (fun kq v5 v6 w' => ∃ (x5_1 : Int) (x6_1 : Int), v5 = .int .i64 x5_1 ∧ v6 = .int .i64 x6_1 ∧ Aside0 (spec_l8Middle_0.l0 kq l0 x5_1 x6_1 = some r) ∧ Aside0 (kq ≤ k) ∧ Drawn0 w w')
 case atStart => exact ⟨(0), (0), sq, sq, H', ⟨Nat.le_refl _⟩, by repeat (first | exact Drawn0.refl _ | apply Drawn0.step)⟩
 case round =>
  clear H'; obtain ⟨x5_1, x6_1, rfl, rfl, HA, HK1, ⟨m1, rfl⟩⟩ := hrel
  cases gk with
  | zero => exact absurd HA.out (by simp [spec_l8Middle_0.l0])
  | succ k1 =>
   have H := HA.out; clear HA; simp only [spec_l8Middle_0.l0] at H
   by_cases c2 : x6_1 < (l0.length : Int)
   ·rw [if_pos c2] at H
    have c2b0 := decide_eq_true c2; clear c2
    by_cases c3 : 0 ≤ x6_1
    ·rw [if_pos c3] at H
     have c3b0 := decide_eq_true c3; clear c3; have H' := ak H; clear H; have p283 : 0 ≤ (x6_1 : Int) := dq; have q283 : x6_1 < (l0.length : Int) := dq; obtain ⟨ad283, e283, hx283_0, hx283_1⟩ := at_T49 HR0.out x6_1 p283 q283; cases e283; replace p283 := eq_true p283; replace q283 := eq_true q283; go_wp2; go_roundg k1
     case measure => have := HK1.out; omega
     case rel => exact ⟨(wrap64 ((wrap64 (x5_1 + (wrap64 (2 * ((rd_T49 l0 x6_1).f0))))) + 1)), (wrap64 (x6_1 + 1)), sq, sq, H', ⟨by have := HK1.out; omega⟩, by repeat (first | exact Drawn0.refl _ | apply Drawn0.step)⟩
    ·rw [if_neg c3] at H
     exact absurd H (by simp)
   ·rw [if_neg c2] at H
    have c2b0 := decide_eq_false c2; clear c2; obtain rfl := Option.some.inj H; go_wp2; go_ret; exact ⟨sq, by repeat (first | exact Drawn0.refl _ | apply Drawn0.step)⟩

/-! ### spec_l8Over: function 66 -/
def spec_l8Over.f (a0 : Int) (a1 : Int) (a2 : Int) (a3 : Int) : Option (Int) := if a0 < (wrap64 ((wrap64 (2 * a1)) * a2)) then (some (-1)) else (if a0 > (wrap64 ((wrap64 (2 * a1)) * a3)) then (some 1) else (some 0))
set_option maxHeartbeats 8000000 in
set_option maxRecDepth 100000 in
theorem spec_l8Over.calls (a0 : Int) (a1 : Int) (a2 : Int) (a3 : Int) (r : Int) (w : World) (h : spec_l8Over.f a0 a1 a2 a3 = some r) :
  Calls Try.prog 66 #[.int .i64 a0, .int .i64 a1, .int .i64 a2, .int .i64 a3] w fun e w' => e = .returned (.int .i64 r) ∧ Drawn0 w w' := by
 have H : (if a0 < (wrap64 ((wrap64 (2 * a1)) * a2)) then (some (-1)) else (if a0 > (wrap64 ((wrap64 (2 * a1)) * a3)) then (some 1) else (some 0))) = some r := h; clear h
 by_cases c5 : a0 < (wrap64 ((wrap64 (2 * a1)) * a2))
 ·rw [if_pos c5] at H
  have c5b0 := decide_eq_true c5; clear c5; obtain rfl := Option.some.inj H
  go_enter Try.func66, Try.ntmps66
  go_wp2; go_ret; exact ⟨sq, by repeat (first | exact Drawn0.refl _ | apply Drawn0.step)⟩
 ·rw [if_neg c5] at H
  have c5b0 := decide_eq_false c5; clear c5
  by_cases c6 : a0 > (wrap64 ((wrap64 (2 * a1)) * a3))
  ·rw [if_pos c6] at H
   have c6b0 : decide ((wrap64 ((wrap64 (2 * a1)) * a3)) < a0) = true := decide_eq_true c6; clear c6; obtain rfl := Option.some.inj H
   go_enter Try.func66, Try.ntmps66
   go_wp2; go_ret; exact ⟨sq, by repeat (first | exact Drawn0.refl _ | apply Drawn0.step)⟩
  ·rw [if_neg c6] at H
   have c6b0 : decide ((wrap64 ((wrap64 (2 * a1)) * a3)) < a0) = false := decide_eq_false c6; clear c6; obtain rfl := Option.some.inj H
   go_enter Try.func66, Try.ntmps66
   go_wp2; go_ret; exact ⟨sq, by repeat (first | exact Drawn0.refl _ | apply Drawn0.step)⟩

/-! ### spec_l8Side: function 74 -/
def spec_l8Side.f (k : Nat) (l0 : List (S49)) : Option (Int) := (spec_l8Ground.f k l0).bind fun bt284 => ((spec_l8Middle_0.f k l0).bind fun t286 => ((spec_l8Over.f t286 (l0.length : Int) bt284.1 bt284.2).bind fun t287 => (some t287)))
theorem spec_l8Side.mono : ∀ a0 k, LeO (spec_l8Side.f k a0) (spec_l8Side.f (k + 1) a0) := by
 intro a0 k
 unfold spec_l8Side.f
 repeat' first
   | (with_reducible exact spec_l8Ground.mono _ _)
   | (with_reducible exact spec_l8Middle_0.mono _ _)
   | (with_reducible exact LeO.refl _)
   | (with_reducible exact LeO.none _)
   | (with_reducible refine LeO.ite ?_ ?_)
   | (with_reducible refine LeO.bind ?_ (fun _ => ?_))
set_option maxHeartbeats 8000000 in
set_option maxRecDepth 100000 in
theorem spec_l8Side.calls (k : Nat) (A0 : Option Addr) (c0 : Nat) (l0 : List (S49)) (r : Int) (w : World) (hr0 : Kd.C k49 w A0 l0.length l0) (hc0 : l0.length ≤ c0) (h : spec_l8Side.f k l0 = some r) :
  Calls Try.prog 74 #[.slice A0 l0.length c0] w fun e w' => e = .returned (.int .i64 r) ∧ Drawn0 w w' := by
 have HR0 := ak hr0; have HC0 := ak hc0; clear hr0 hc0; have H : ((spec_l8Ground.f k l0).bind fun bt284 => ((spec_l8Middle_0.f k l0).bind fun t286 => ((spec_l8Over.f t286 (l0.length : Int) bt284.1 bt284.2).bind fun t287 => (some t287)))) = some r := h; clear h; obtain ⟨⟨t284, t285⟩, A20, H⟩ := Option.bind_eq_some_iff.mp H
 (try dsimp only at H)
 have A2 := ak A20; clear A20; obtain ⟨t286, A30, H⟩ := Option.bind_eq_some_iff.mp H
 (try dsimp only at H)
 have A3 := ak A30; clear A30; obtain ⟨t287, A40, H⟩ := Option.bind_eq_some_iff.mp H
 (try dsimp only at H)
 have A4 := ak A40; clear A40; obtain rfl := Option.some.inj H
 go_enter Try.func74, Try.ntmps74
 go_wp2_with (first | ((with_reducible refine gate_callee (f := 101) rfl ?_); refine goesL_ (some 7) rfl rfl Try.func101 (by kernel_rfl) rfl #[.slice A0 l0.length c0] rfl aq ?_; (with_reducible refine (spec_l8Ground.calls k _ _ l0 t284 t285 _ ?side1 ?side2 A2.out).mono ?_); (case side1 => exact cq HR0.out); (case side2 => exact HC0.out); rintro e w' ⟨rfl, ⟨nd, rfl⟩⟩; refine ⟨_, rfl, ?_⟩) | ((with_reducible refine gate_callee (f := 67) rfl ?_); refine goesL_ (some 11) rfl rfl Try.func67 (by kernel_rfl) rfl #[.slice A0 l0.length c0, .int .i64 0] rfl aq ?_; (with_reducible refine (spec_l8Middle_0.calls k _ _ l0 t286 _ ?side1 ?side2 A3.out).mono ?_); (case side1 => exact cq HR0.out); (case side2 => exact HC0.out); rintro e w' ⟨rfl, ⟨nd, rfl⟩⟩; refine ⟨_, rfl, ?_⟩) | ((with_reducible refine gate_callee (f := 66) rfl ?_); refine goesL_ (some 16) rfl rfl Try.func66 (by kernel_rfl) rfl #[.int .i64 t286, .int .i64 (l0.length : Int), .int .i64 t284, .int .i64 t285] rfl aq ?_; (with_reducible refine (spec_l8Over.calls t286 (l0.length : Int) t284 t285 t287 _ A4.out).mono ?_); rintro e w' ⟨rfl, ⟨nd, rfl⟩⟩; refine ⟨_, rfl, ?_⟩))
 go_ret; exact ⟨sq, by repeat (first | exact Drawn0.refl _ | apply Drawn0.step)⟩

end Go.Proofs.Ytckhmeadflafaaa.XCb
