/- Functions of the program as plain Lean functions, each with the proof that the machine's call does what it says: written by a program of this session out of the translation. -/
import Derived.Test.YtckhmeadflafaaaXFsx0
namespace Go.Proofs.Ytckhmeadflafaaa.XFs
open Go.RowKit Go.Proofs.YtckhmeadflafaaaW.PrintWords Go.Proofs.YtckhmeadflafaaaW.PrintLast Go.Proofs.YtckhmeadflafaaaW.PrintMore
attribute [local go_sem] max2_int min2_int max_two min_two max_three min_three max_four min_four   -- for this text's walks alone
set_option linter.unusedVariables false
set_option linter.unusedSimpArgs false

/-! ### spec_l8Meets: function 61 -/
mutual
def spec_l8Meets.l0 : Nat → List (S49) → List (S49) → Int → Int → Int → Option (Bool)
 | 0, _, _, _, _, _ => none
 | k + 1, x0, x1, x2, x3, x9 => if x9 < (x1.length : Int) then (spec_l8Meets.l1 k x0 x1 x2 x3 x9 0) else (some false)
def spec_l8Meets.l1 : Nat → List (S49) → List (S49) → Int → Int → Int → Int → Option (Bool)
 | 0, _, _, _, _, _, _ => none
 | k + 1, x0, x1, x2, x3, x9, x10 => if x10 < (x0.length : Int) then (if 0 ≤ x10 then (if 0 ≤ x9 then (if x9 < (x1.length : Int) then (if ((rd_T49 x0 x10).f0) = (wrap64 (((rd_T49 x1 x9).f0) + x2)) then (if ((rd_T49 x0 x10).f1) ≥ (wrap64 (((rd_T49 x1 x9).f1) + x3)) then (some true) else (spec_l8Meets.l1 k x0 x1 x2 x3 x9 (wrap64 (x10 + 1)))) else (spec_l8Meets.l1 k x0 x1 x2 x3 x9 (wrap64 (x10 + 1)))) else (none)) else (none)) else (none)) else (spec_l8Meets.l0 k x0 x1 x2 x3 (wrap64 (x9 + 1)))
end
def spec_l8Meets.f (k : Nat) (l0 : List (S49)) (l1 : List (S49)) (a2 : Int) (a3 : Int) : Option (Bool) := spec_l8Meets.l0 k l0 l1 a2 a3 0
theorem spec_l8Meets.mono_l : ∀ k, (∀ y0 y1 y2 y3 y4, LeO (spec_l8Meets.l0 k y0 y1 y2 y3 y4) (spec_l8Meets.l0 (k + 1) y0 y1 y2 y3 y4)) ∧ (∀ y0 y1 y2 y3 y4 y5, LeO (spec_l8Meets.l1 k y0 y1 y2 y3 y4 y5) (spec_l8Meets.l1 (k + 1) y0 y1 y2 y3 y4 y5))
 | 0 => ⟨fun _ _ _ _ _ r h => by simp [spec_l8Meets.l0] at h, fun _ _ _ _ _ _ r h => by simp [spec_l8Meets.l1] at h⟩
 | k + 1 => by
  obtain ⟨ih0, ih1⟩ := spec_l8Meets.mono_l k; refine ⟨?_, ?_⟩
  ·intro y0 y1 y2 y3 y4
   unfold spec_l8Meets.l0
   repeat' first
   | (with_reducible exact ih0 _ _ _ _ _)
   | (with_reducible exact ih1 _ _ _ _ _ _)
   | (with_reducible exact LeO.refl _)
   | (with_reducible exact LeO.none _)
   | (with_reducible refine LeO.ite ?_ ?_)
   | (with_reducible refine LeO.bind ?_ (fun _ => ?_))
  ·intro y0 y1 y2 y3 y4 y5
   unfold spec_l8Meets.l1
   repeat' first
   | (with_reducible exact ih0 _ _ _ _ _)
   | (with_reducible exact ih1 _ _ _ _ _ _)
   | (with_reducible exact LeO.refl _)
   | (with_reducible exact LeO.none _)
   | (with_reducible refine LeO.ite ?_ ?_)
   | (with_reducible refine LeO.bind ?_ (fun _ => ?_))
theorem spec_l8Meets.mono : ∀ a0 a1 a2 a3 k, LeO (spec_l8Meets.f k a0 a1 a2 a3) (spec_l8Meets.f (k + 1) a0 a1 a2 a3) := by
 intro a0 a1 a2 a3 k; obtain ⟨ih0, ih1⟩ := spec_l8Meets.mono_l k
 unfold spec_l8Meets.f
 repeat' first
   | (with_reducible exact ih0 _ _ _ _ _)
   | (with_reducible exact ih1 _ _ _ _ _ _)
   | (with_reducible exact LeO.refl _)
   | (with_reducible exact LeO.none _)
   | (with_reducible refine LeO.ite ?_ ?_)
   | (with_reducible refine LeO.bind ?_ (fun _ => ?_))
set_option maxHeartbeats 8000000 in
set_option maxRecDepth 100000 in
theorem spec_l8Meets.calls (k : Nat) (A0 : Option Addr) (c0 : Nat) (l0 : List (S49)) (A1 : Option Addr) (c1 : Nat) (l1 : List (S49)) (a2 : Int) (a3 : Int) (r : Bool) (w : World) (hr0 : Kd.C k49 w A0 l0.length l0) (hc0 : l0.length ≤ c0) (hr1 : Kd.C k49 w A1 l1.length l1) (hc1 : l1.length ≤ c1) (h : spec_l8Meets.f k l0 l1 a2 a3 = some r) :
  Calls Try.prog 61 #[.slice A0 l0.length c0, .slice A1 l1.length c1, .int .i64 a2, .int .i64 a3] w fun e w' => e = .returned (.bool r) ∧ Drawn0 w w' := by
 have HR0 := Aside0.mk hr0; have HC0 := Aside0.mk hc0; clear hr0 hc0; have HR1 := Aside0.mk hr1; have HC1 := Aside0.mk hc1; clear hr1 hc1; have H : (spec_l8Meets.l0 k l0 l1 a2 a3 0) = some r := h; clear h; have H' := Aside0.mk H; clear H
 go_enter Try.func61, Try.ntmps61
 go_wp2
 repeat (go_quiet (fail); try go_wp2)
 go_loopg [9] k (fun kq v9 w' => ∃ (x9_1 : Int), v9 = .int .i64 x9_1 ∧ Aside0 (spec_l8Meets.l0 kq l0 l1 a2 a3 x9_1 = some r) ∧ Aside0 (kq ≤ k) ∧ Drawn0 w w')
 case atStart => exact ⟨(0), (by rfl), H', ⟨Nat.le_refl _⟩, by repeat (exact Drawn0.refl _)⟩
 case round =>
  clear H'; (try clear c1); (try clear p2); obtain ⟨x9_1, rfl, HA, HK1, ⟨m1, rfl⟩⟩ := hrel
  cases gk with
  | zero => exact absurd HA.out (by simp [spec_l8Meets.l0])
  | succ k1 =>
   have H := HA.out; clear HA; simp only [spec_l8Meets.l0] at H
   by_cases c5 : x9_1 < (l1.length : Int)
   ·rw [if_pos c5] at H
    have c5b0 : decide (x9_1 < (l1.length : Int)) = true := decide_eq_true c5; clear c5; have H' := Aside0.mk H; clear H; go_wp2
    repeat (go_quiet (fail); try go_wp2)
    go_loopg [10] k1 (fun kq v10 w' => ∃ (x10_2 : Int), v10 = .int .i64 x10_2 ∧ Aside0 (spec_l8Meets.l1 kq l0 l1 a2 a3 x9_1 x10_2 = some r) ∧ Aside0 (kq ≤ k1) ∧ Drawn0 w w')
    case atStart => exact ⟨(0), (by rfl), H', ⟨Nat.le_refl _⟩, by repeat (first | exact Drawn0.refl _ | apply Drawn0.step)⟩
    case round =>
     clear H'; (try clear c1); (try clear p2); (try clear c5); (try clear c5b0); (try clear p2); obtain ⟨x10_2, rfl, HA, HK2, ⟨m2, rfl⟩⟩ := hrel
     cases gk with
     | zero => exact absurd HA.out (by simp [spec_l8Meets.l1])
     | succ k2 =>
      have H := HA.out; clear HA; simp only [spec_l8Meets.l1] at H
      by_cases c6 : x10_2 < (l0.length : Int)
      ·rw [if_pos c6] at H
       have c6b0 : decide (x10_2 < (l0.length : Int)) = true := decide_eq_true c6; clear c6
       by_cases c7 : 0 ≤ x10_2
       ·rw [if_pos c7] at H
        have c7b0 : decide (0 ≤ x10_2) = true := decide_eq_true c7; clear c7
        by_cases c8 : 0 ≤ x9_1
        ·rw [if_pos c8] at H
         have c8b0 : decide (0 ≤ x9_1) = true := decide_eq_true c8; clear c8
         by_cases c9 : x9_1 < (l1.length : Int)
         ·rw [if_pos c9] at H
          have c9b0 : decide (x9_1 < (l1.length : Int)) = true := decide_eq_true c9; clear c9
          by_cases c10 : ((rd_T49 l0 x10_2).f0) = (wrap64 (((rd_T49 l1 x9_1).f0) + a2))
          ·rw [if_pos c10] at H
           have c10b0 : (((rd_T49 l0 x10_2).f0) == (wrap64 (((rd_T49 l1 x9_1).f0) + a2))) = true := beq_iff_eq.mpr c10; have c10b1 : (((rd_T49 l0 x10_2).f0) != (wrap64 (((rd_T49 l1 x9_1).f0) + a2))) = false := bne_eq_false_iff_eq.mpr c10; clear c10
           by_cases c11 : ((rd_T49 l0 x10_2).f1) ≥ (wrap64 (((rd_T49 l1 x9_1).f1) + a3))
           ·rw [if_pos c11] at H
            have c11b0 : decide ((wrap64 (((rd_T49 l1 x9_1).f1) + a3)) ≤ ((rd_T49 l0 x10_2).f1)) = true := decide_eq_true c11; clear c11; obtain rfl := Option.some.inj H; have p372 : 0 ≤ (x10_2 : Int) := of_decide_eq_true (by (with_reducible assumption)); have q372 : x10_2 < (l0.length : Int) := of_decide_eq_true (by (with_reducible assumption)); obtain ⟨ad372, e372, hx372_0, hx372_1⟩ := at_T49 HR0.out x10_2 p372 q372; cases e372; replace p372 := eq_true p372; replace q372 := eq_true q372; have p373 : 0 ≤ (x9_1 : Int) := of_decide_eq_true (by (with_reducible assumption)); have q373 : x9_1 < (l1.length : Int) := of_decide_eq_true (by (with_reducible assumption)); obtain ⟨ad373, e373, hx373_0, hx373_1⟩ := at_T49 HR1.out x9_1 p373 q373; cases e373; replace p373 := eq_true p373; replace q373 := eq_true q373; have p374 : 0 ≤ (x10_2 : Int) := of_decide_eq_true (by (with_reducible assumption)); have q374 : x10_2 < (l0.length : Int) := of_decide_eq_true (by (with_reducible assumption)); obtain ⟨ad374, e374, hx374_0, hx374_1⟩ := at_T49 HR0.out x10_2 p374 q374; obtain rfl : ad372 = ad374 := (by injection e374); replace p374 := eq_true p374; replace q374 := eq_true q374; have p375 : 0 ≤ (x9_1 : Int) := of_decide_eq_true (by (with_reducible assumption)); have q375 : x9_1 < (l1.length : Int) := of_decide_eq_true (by (with_reducible assumption)); obtain ⟨ad375, e375, hx375_0, hx375_1⟩ := at_T49 HR1.out x9_1 p375 q375; obtain rfl : ad373 = ad375 := (by injection e375); replace p375 := eq_true p375; replace q375 := eq_true q375; go_wp2
            repeat (go_quiet (fail); try go_wp2)
            go_ret; exact ⟨by first | rfl | (simp; done) | (simp [*]; done), by repeat (first | exact Drawn0.refl _ | apply Drawn0.step)⟩
           ·rw [if_neg c11] at H
            have c11b0 : decide ((wrap64 (((rd_T49 l1 x9_1).f1) + a3)) ≤ ((rd_T49 l0 x10_2).f1)) = false := decide_eq_false c11; clear c11; have H' := Aside0.mk H; clear H; have p372 : 0 ≤ (x10_2 : Int) := of_decide_eq_true (by (with_reducible assumption)); have q372 : x10_2 < (l0.length : Int) := of_decide_eq_true (by (with_reducible assumption)); obtain ⟨ad372, e372, hx372_0, hx372_1⟩ := at_T49 HR0.out x10_2 p372 q372; cases e372; replace p372 := eq_true p372; replace q372 := eq_true q372; have p373 : 0 ≤ (x9_1 : Int) := of_decide_eq_true (by (with_reducible assumption)); have q373 : x9_1 < (l1.length : Int) := of_decide_eq_true (by (with_reducible assumption)); obtain ⟨ad373, e373, hx373_0, hx373_1⟩ := at_T49 HR1.out x9_1 p373 q373; cases e373; replace p373 := eq_true p373; replace q373 := eq_true q373; have p374 : 0 ≤ (x10_2 : Int) := of_decide_eq_true (by (with_reducible assumption)); have q374 : x10_2 < (l0.length : Int) := of_decide_eq_true (by (with_reducible assumption)); obtain ⟨ad374, e374, hx374_0, hx374_1⟩ := at_T49 HR0.out x10_2 p374 q374; obtain rfl : ad372 = ad374 := (by injection e374); replace p374 := eq_true p374; replace q374 := eq_true q374; have p375 : 0 ≤ (x9_1 : Int) := of_decide_eq_true (by (with_reducible assumption)); have q375 : x9_1 < (l1.length : Int) := of_decide_eq_true (by (with_reducible assumption)); obtain ⟨ad375, e375, hx375_0, hx375_1⟩ := at_T49 HR1.out x9_1 p375 q375; obtain rfl : ad373 = ad375 := (by injection e375); replace p375 := eq_true p375; replace q375 := eq_true q375; go_wp2
            repeat (go_quiet (fail); try go_wp2)
            go_roundg k2
            case measure => have := HK1.out; have := HK2.out; omega
            case rel => exact ⟨(wrap64 (x10_2 + 1)), (by rfl), H', ⟨by have := HK1.out; have := HK2.out; omega⟩, by repeat (first | exact Drawn0.refl _ | apply Drawn0.step)⟩
          ·rw [if_neg c10] at H
           have c10b0 : (((rd_T49 l0 x10_2).f0) == (wrap64 (((rd_T49 l1 x9_1).f0) + a2))) = false := beq_eq_false_iff_ne.mpr c10; have c10b1 : (((rd_T49 l0 x10_2).f0) != (wrap64 (((rd_T49 l1 x9_1).f0) + a2))) = true := bne_iff_ne.mpr c10; have H' := Aside0.mk H; clear H; have p372 : 0 ≤ (x10_2 : Int) := of_decide_eq_true (by (with_reducible assumption)); have q372 : x10_2 < (l0.length : Int) := of_decide_eq_true (by (with_reducible assumption)); obtain ⟨ad372, e372, hx372_0, hx372_1⟩ := at_T49 HR0.out x10_2 p372 q372; cases e372; replace p372 := eq_true p372; replace q372 := eq_true q372; have p373 : 0 ≤ (x9_1 : Int) := of_decide_eq_true (by (with_reducible assumption)); have q373 : x9_1 < (l1.length : Int) := of_decide_eq_true (by (with_reducible assumption)); obtain ⟨ad373, e373, hx373_0, hx373_1⟩ := at_T49 HR1.out x9_1 p373 q373; cases e373; replace p373 := eq_true p373; replace q373 := eq_true q373; go_wp2
           repeat (go_quiet (fail); try go_wp2)
           go_roundg k2
           case measure => have := HK1.out; have := HK2.out; omega
           case rel => exact ⟨(wrap64 (x10_2 + 1)), (by rfl), H', ⟨by have := HK1.out; have := HK2.out; omega⟩, by repeat (first | exact Drawn0.refl _ | apply Drawn0.step)⟩
         ·rw [if_neg c9] at H
          exact absurd H (by simp)
        ·rw [if_neg c8] at H
         exact absurd H (by simp)
       ·rw [if_neg c7] at H
        exact absurd H (by simp)
      ·rw [if_neg c6] at H
       have c6b0 : decide (x10_2 < (l0.length : Int)) = false := decide_eq_false c6; clear c6; have H' := Aside0.mk H; clear H; go_wp2
       repeat (go_quiet (fail); try go_wp2)
       go_roundg k2
       case measure => have := HK1.out; have := HK2.out; omega
       case rel => exact ⟨(wrap64 (x9_1 + 1)), (by rfl), H', ⟨by have := HK1.out; have := HK2.out; omega⟩, by repeat (first | exact Drawn0.refl _ | apply Drawn0.step)⟩
   ·rw [if_neg c5] at H
    have c5b0 : decide (x9_1 < (l1.length : Int)) = false := decide_eq_false c5; clear c5; obtain rfl := Option.some.inj H; go_wp2
    repeat (go_quiet (fail); try go_wp2)
    go_ret; exact ⟨by first | rfl | (simp; done) | (simp [*]; done), by repeat (first | exact Drawn0.refl _ | apply Drawn0.step)⟩

/-! ### spec_l8Middle_0: function 67 -/
def spec_l8Middle_0.l0 : Nat → List (S49) → Int → Int → Option (Int)
 | 0, _, _, _ => none
 | k + 1, x0, x5, x6 => if x6 < (x0.length : Int) then (if 0 ≤ x6 then (spec_l8Middle_0.l0 k x0 (wrap64 ((wrap64 (x5 + (wrap64 (2 * ((rd_T49 x0 x6).f0))))) + 1)) (wrap64 (x6 + 1))) else (none)) else (some x5)
def spec_l8Middle_0.f (k : Nat) (l0 : List (S49)) : Option (Int) := spec_l8Middle_0.l0 k l0 0 0
theorem spec_l8Middle_0.mono_l : ∀ k, (∀ y0 y1 y2, LeO (spec_l8Middle_0.l0 k y0 y1 y2) (spec_l8Middle_0.l0 (k + 1) y0 y1 y2))
 | 0 => fun _ _ _ r h => by simp [spec_l8Middle_0.l0] at h
 | k + 1 => by
  have ih0 := spec_l8Middle_0.mono_l k
  ·intro y0 y1 y2
   unfold spec_l8Middle_0.l0
   repeat' first
   | (with_reducible exact ih0 _ _ _)
   | (with_reducible exact LeO.refl _)
   | (with_reducible exact LeO.none _)
   | (with_reducible refine LeO.ite ?_ ?_)
   | (with_reducible refine LeO.bind ?_ (fun _ => ?_))
theorem spec_l8Middle_0.mono : ∀ a0 k, LeO (spec_l8Middle_0.f k a0) (spec_l8Middle_0.f (k + 1) a0) := by
 intro a0 k; have ih0 := spec_l8Middle_0.mono_l k
 unfold spec_l8Middle_0.f
 repeat' first
   | (with_reducible exact ih0 _ _ _)
   | (with_reducible exact LeO.refl _)
   | (with_reducible exact LeO.none _)
   | (with_reducible refine LeO.ite ?_ ?_)
   | (with_reducible refine LeO.bind ?_ (fun _ => ?_))
set_option maxHeartbeats 8000000 in
set_option maxRecDepth 100000 in
theorem spec_l8Middle_0.calls (k : Nat) (A0 : Option Addr) (c0 : Nat) (l0 : List (S49)) (r : Int) (w : World) (hr0 : Kd.C k49 w A0 l0.length l0) (hc0 : l0.length ≤ c0) (h : spec_l8Middle_0.f k l0 = some r) :
  Calls Try.prog 67 #[.slice A0 l0.length c0, .int .i64 0] w fun e w' => e = .returned (.int .i64 r) ∧ Drawn0 w w' := by
 have HR0 := Aside0.mk hr0; have HC0 := Aside0.mk hc0; clear hr0 hc0; have H : (spec_l8Middle_0.l0 k l0 0 0) = some r := h; clear h; have H' := Aside0.mk H; clear H
 go_enter Try.func67, Try.ntmps67
 go_wp2
 go_loopg [5, 6] k (fun kq v5 v6 w' => ∃ (x5_1 : Int) (x6_1 : Int), v5 = .int .i64 x5_1 ∧ v6 = .int .i64 x6_1 ∧ Aside0 (spec_l8Middle_0.l0 kq l0 x5_1 x6_1 = some r) ∧ Aside0 (kq ≤ k) ∧ Drawn0 w w')
 case atStart => exact ⟨(0), (0), (by rfl), (by rfl), H', ⟨Nat.le_refl _⟩, by repeat (exact Drawn0.refl _)⟩
 case round =>
  clear H'; obtain ⟨x5_1, x6_1, rfl, rfl, HA, HK1, ⟨m1, rfl⟩⟩ := hrel
  cases gk with
  | zero => exact absurd HA.out (by simp [spec_l8Middle_0.l0])
  | succ k1 =>
   have H := HA.out; clear HA; simp only [spec_l8Middle_0.l0] at H
   by_cases c2 : x6_1 < (l0.length : Int)
   ·rw [if_pos c2] at H
    have c2b0 : decide (x6_1 < (l0.length : Int)) = true := decide_eq_true c2; clear c2
    by_cases c3 : 0 ≤ x6_1
    ·rw [if_pos c3] at H
     have c3b0 : decide (0 ≤ x6_1) = true := decide_eq_true c3; clear c3; have H' := Aside0.mk H; clear H; have p376 : 0 ≤ (x6_1 : Int) := of_decide_eq_true (by (with_reducible assumption)); have q376 : x6_1 < (l0.length : Int) := of_decide_eq_true (by (with_reducible assumption)); obtain ⟨ad376, e376, hx376_0, hx376_1⟩ := at_T49 HR0.out x6_1 p376 q376; cases e376; replace p376 := eq_true p376; replace q376 := eq_true q376; go_wp2; go_roundg k1
     case measure => have := HK1.out; omega
     case rel => exact ⟨(wrap64 ((wrap64 (x5_1 + (wrap64 (2 * ((rd_T49 l0 x6_1).f0))))) + 1)), (wrap64 (x6_1 + 1)), (by rfl), (by rfl), H', ⟨by have := HK1.out; omega⟩, by repeat (first | exact Drawn0.refl _ | apply Drawn0.step)⟩
    ·rw [if_neg c3] at H
     exact absurd H (by simp)
   ·rw [if_neg c2] at H
    have c2b0 : decide (x6_1 < (l0.length : Int)) = false := decide_eq_false c2; clear c2; obtain rfl := Option.some.inj H; go_wp2; go_ret; exact ⟨by first | rfl | (simp; done) | (simp [*]; done), by repeat (first | exact Drawn0.refl _ | apply Drawn0.step)⟩

/-! ### spec_l8Over: function 66 -/
def spec_l8Over.f (a0 : Int) (a1 : Int) (a2 : Int) (a3 : Int) : Option (Int) := if a0 < (wrap64 ((wrap64 (2 * a1)) * a2)) then (some (-1)) else (if a0 > (wrap64 ((wrap64 (2 * a1)) * a3)) then (some 1) else (some 0))
set_option maxHeartbeats 8000000 in
set_option maxRecDepth 100000 in
theorem spec_l8Over.calls (a0 : Int) (a1 : Int) (a2 : Int) (a3 : Int) (r : Int) (w : World) (h : spec_l8Over.f a0 a1 a2 a3 = some r) :
  Calls Try.prog 66 #[.int .i64 a0, .int .i64 a1, .int .i64 a2, .int .i64 a3] w fun e w' => e = .returned (.int .i64 r) ∧ Drawn0 w w' := by
 have H : (if a0 < (wrap64 ((wrap64 (2 * a1)) * a2)) then (some (-1)) else (if a0 > (wrap64 ((wrap64 (2 * a1)) * a3)) then (some 1) else (some 0))) = some r := h; clear h
 by_cases c5 : a0 < (wrap64 ((wrap64 (2 * a1)) * a2))
 ·rw [if_pos c5] at H
  have c5b0 : decide (a0 < (wrap64 ((wrap64 (2 * a1)) * a2))) = true := decide_eq_true c5; clear c5; obtain rfl := Option.some.inj H
  go_enter Try.func66, Try.ntmps66
  go_wp2; go_ret; exact ⟨by first | rfl | (simp; done) | (simp [*]; done), by repeat (exact Drawn0.refl _)⟩
 ·rw [if_neg c5] at H
  have c5b0 : decide (a0 < (wrap64 ((wrap64 (2 * a1)) * a2))) = false := decide_eq_false c5; clear c5
  by_cases c6 : a0 > (wrap64 ((wrap64 (2 * a1)) * a3))
  ·rw [if_pos c6] at H
   have c6b0 : decide ((wrap64 ((wrap64 (2 * a1)) * a3)) < a0) = true := decide_eq_true c6; clear c6; obtain rfl := Option.some.inj H
   go_enter Try.func66, Try.ntmps66
   go_wp2; go_ret; exact ⟨by first | rfl | (simp; done) | (simp [*]; done), by repeat (exact Drawn0.refl _)⟩
  ·rw [if_neg c6] at H
   have c6b0 : decide ((wrap64 ((wrap64 (2 * a1)) * a3)) < a0) = false := decide_eq_false c6; clear c6; obtain rfl := Option.some.inj H
   go_enter Try.func66, Try.ntmps66
   go_wp2; go_ret; exact ⟨by first | rfl | (simp; done) | (simp [*]; done), by repeat (exact Drawn0.refl _)⟩

end Go.Proofs.Ytckhmeadflafaaa.XFs
