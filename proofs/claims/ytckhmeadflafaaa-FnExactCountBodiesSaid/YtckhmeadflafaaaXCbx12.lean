/- Functions of the program as plain Lean functions, each with the proof that the machine's call does what it says: written by a program of this session out of the translation. -/
import Derived.Test.YtckhmeadflafaaaXCbx0
import Derived.Test.YtckhmeadflafaaaXCbx1
namespace Go.Proofs.Ytckhmeadflafaaa.XCb
open Go.RowKit Go.Proofs.YtckhmeadflafaaaW.PrintWords Go.Proofs.YtckhmeadflafaaaW.PrintLast Go.Proofs.YtckhmeadflafaaaW.PrintMore
attribute [local go_sem] max2_int min2_int max_two min_two max_three min_three max_four min_four   -- for this text's walks alone
set_option linter.unusedVariables false
set_option linter.unusedSimpArgs false

attribute [local go_sem high] eqA49
/-! ### spec_l8Found: function 113 -/
mutual
def spec_l8Found.l0 : Nat → List (List (S49)) → List (S49) → Int → Option (Bool)
 | 0, _, _, _ => none
 | k + 1, x0, x1, x5 => if x5 < (x0.length : Int) then (spec_l8Found.l1 k x0 x1 x5 true 0) else (some false)
def spec_l8Found.l1 : Nat → List (List (S49)) → List (S49) → Int → Bool → Int → Option (Bool)
 | 0, _, _, _, _, _ => none
 | k + 1, x0, x1, x5, x6, x7 => if x7 < (x1.length : Int) then (if x6 = true then (if 0 ≤ x5 then (if x5 < (x0.length : Int) then (if 0 ≤ x7 then (if x7 < ((rd_L3 x0 x5).length : Int) then (spec_l8Found.l1 k x0 x1 x5 (((rd_T49 (rd_L3 x0 x5) x7).f0) == ((rd_T49 x1 x7).f0) && (((rd_T49 (rd_L3 x0 x5) x7).f1) == ((rd_T49 x1 x7).f1))) (wrap64 (x7 + 1))) else (none)) else (none)) else (none)) else (none)) else (spec_l8Found.l0 k x0 x1 (wrap64 (x5 + 1)))) else (if x6 = true then (some true) else (spec_l8Found.l0 k x0 x1 (wrap64 (x5 + 1))))
end
def spec_l8Found.f (k : Nat) (l0 : List (List (S49))) (l1 : List (S49)) : Option (Bool) := spec_l8Found.l0 k l0 l1 0
theorem spec_l8Found.mono_l : ∀ k, (∀ y0 y1 y2, LeO (spec_l8Found.l0 k y0 y1 y2) (spec_l8Found.l0 (k + 1) y0 y1 y2)) ∧ (∀ y0 y1 y2 y3 y4, LeO (spec_l8Found.l1 k y0 y1 y2 y3 y4) (spec_l8Found.l1 (k + 1) y0 y1 y2 y3 y4))
 | 0 => ⟨fun _ _ _ r h => by simp [spec_l8Found.l0] at h, fun _ _ _ _ _ r h => by simp [spec_l8Found.l1] at h⟩
 | k + 1 => by
  obtain ⟨ih0, ih1⟩ := spec_l8Found.mono_l k; refine ⟨?_, ?_⟩
  ·intro y0 y1 y2
   unfold spec_l8Found.l0
   repeat' first
   | (with_reducible exact ih0 _ _ _)
   | (with_reducible exact ih1 _ _ _ _ _)
   | (with_reducible exact LeO.refl _)
   | (with_reducible exact LeO.none _)
   | (with_reducible refine LeO.ite ?_ ?_)
   | (with_reducible refine LeO.bind ?_ (fun _ => ?_))
  ·intro y0 y1 y2 y3 y4
   unfold spec_l8Found.l1
   repeat' first
   | (with_reducible exact ih0 _ _ _)
   | (with_reducible exact ih1 _ _ _ _ _)
   | (with_reducible exact LeO.refl _)
   | (with_reducible exact LeO.none _)
   | (with_reducible refine LeO.ite ?_ ?_)
   | (with_reducible refine LeO.bind ?_ (fun _ => ?_))
theorem spec_l8Found.mono : ∀ a0 a1 k, LeO (spec_l8Found.f k a0 a1) (spec_l8Found.f (k + 1) a0 a1) := by
 intro a0 a1 k; obtain ⟨ih0, ih1⟩ := spec_l8Found.mono_l k
 unfold spec_l8Found.f
 repeat' first
   | (with_reducible exact ih0 _ _ _)
   | (with_reducible exact ih1 _ _ _ _ _)
   | (with_reducible exact LeO.refl _)
   | (with_reducible exact LeO.none _)
   | (with_reducible refine LeO.ite ?_ ?_)
   | (with_reducible refine LeO.bind ?_ (fun _ => ?_))
set_option maxHeartbeats 8000000 in
set_option maxRecDepth 100000 in
theorem spec_l8Found.calls (k : Nat) (A0 : Option Addr) (c0 : Nat) (l0 : List (List (S49))) (A1 : Option Addr) (c1 : Nat) (l1 : List (S49)) (r : Bool) (w : World) (hr0 : Kd.C (Kd.slice 49 k49) w A0 l0.length l0) (hc0 : l0.length ≤ c0) (hr1 : Kd.C k49 w A1 l1.length l1) (hc1 : l1.length ≤ c1) (h : spec_l8Found.f k l0 l1 = some r) :
  Calls Try.prog 113 #[.slice A0 l0.length c0, .slice A1 l1.length c1] w fun e w' => e = .returned (.bool r) ∧ Drawn0 w w' := by
 have hu49 := Try.underlying49; have HR0 := ak hr0; have HC0 := ak hc0; clear hr0 hc0; have HR1 := ak hr1; have HC1 := ak hc1; clear hr1 hc1; have H : (spec_l8Found.l0 k l0 l1 0) = some r := h; clear h; have H' := ak H; clear H
 go_enter Try.func113, Try.ntmps113
 go_wp2
 repeat (go_quiet (fail); try go_wp2)
 go_loopg [5] k (fun kq v5 w' => ∃ (x5_1 : Int), v5 = .int .i64 x5_1 ∧ Aside0 (spec_l8Found.l0 kq l0 l1 x5_1 = some r) ∧ Aside0 (kq ≤ k) ∧ Drawn0 w w')
 case atStart => exact ⟨(0), sq, H', ⟨Nat.le_refl _⟩, by repeat (first | exact Drawn0.refl _ | apply Drawn0.step)⟩
 case round =>
  clear H'; (try clear c1); (try clear p2); obtain ⟨x5_1, rfl, HA, HK1, ⟨m1, rfl⟩⟩ := hrel
  cases gk with
  | zero => exact absurd HA.out (by simp [spec_l8Found.l0])
  | succ k1 =>
   have H := HA.out; clear HA; simp only [spec_l8Found.l0] at H
   by_cases c3 : x5_1 < (l0.length : Int)
   ·rw [if_pos c3] at H
    have c3b0 := decide_eq_true c3; clear c3; have H' := ak H; clear H; go_wp2
    repeat (go_quiet (fail); try go_wp2)
    go_loopg [6, 7] k1 (fun kq v6 v7 w' => ∃ (x6_2 : Bool) (x7_2 : Int), v6 = .bool x6_2 ∧ v7 = .int .i64 x7_2 ∧ Aside0 (spec_l8Found.l1 kq l0 l1 x5_1 x6_2 x7_2 = some r) ∧ Aside0 (kq ≤ k1) ∧ Drawn0 w w')
    case atStart => exact ⟨(true), (0), sq, sq, H', ⟨Nat.le_refl _⟩, by repeat (first | exact Drawn0.refl _ | apply Drawn0.step)⟩
    case round =>
     clear H'; (try clear c1); (try clear p2); (try clear c3); (try clear c3b0); (try clear p2); obtain ⟨x6_2, x7_2, rfl, rfl, HA, HK2, ⟨m2, rfl⟩⟩ := hrel
     cases gk with
     | zero => exact absurd HA.out (by simp [spec_l8Found.l1])
     | succ k2 =>
      have H := HA.out; clear HA; simp only [spec_l8Found.l1] at H
      by_cases c4 : x7_2 < (l1.length : Int)
      ·rw [if_pos c4] at H
       have c4b0 := decide_eq_true c4; clear c4
       by_cases c5 : x6_2 = true
       ·subst c5
        rw [if_pos rfl] at H
        by_cases c6 : 0 ≤ x5_1
        ·rw [if_pos c6] at H
         have c6b0 := decide_eq_true c6; clear c6
         by_cases c7 : x5_1 < (l0.length : Int)
         ·rw [if_pos c7] at H
          have c7b0 := decide_eq_true c7; clear c7
          by_cases c8 : 0 ≤ x7_2
          ·rw [if_pos c8] at H
           have c8b0 := decide_eq_true c8; clear c8
           by_cases c9 : x7_2 < ((rd_L3 l0 x5_1).length : Int)
           ·rw [if_pos c9] at H
            have c9b0 := decide_eq_true c9; clear c9; have H' := ak H; clear H; have p251 : 0 ≤ (x5_1 : Int) := dq; have q251 : x5_1 < (l0.length : Int) := dq; obtain ⟨ad251, A251_0, c251_0, e251, hx251_0, hl251_0, hi251_0⟩ := at_L3 HR0.out x5_1 p251 q251; cases e251; have HR251_0 := ak hi251_0; have HC251_0 := ak hl251_0; clear hi251_0 hl251_0; replace p251 := eq_true p251; replace q251 := eq_true q251; have p252 : 0 ≤ (x7_2 : Int) := dq; have q252 : x7_2 < ((rd_L3 l0 x5_1).length : Int) := dq; obtain ⟨ad252, e252, hx252_0, hx252_1⟩ := at_T49 HR251_0.out x7_2 p252 q252; cases e252; replace p252 := eq_true p252; replace q252 := eq_true q252; have p253 : 0 ≤ (x7_2 : Int) := dq; have q253 : x7_2 < (l1.length : Int) := dq; obtain ⟨ad253, e253, hx253_0, hx253_1⟩ := at_T49 HR1.out x7_2 p253 q253; cases e253; replace p253 := eq_true p253; replace q253 := eq_true q253; go_wp2
            repeat (go_quiet (fail); try go_wp2)
            go_roundg k2
            case measure => have := HK1.out; have := HK2.out; omega
            case rel => exact ⟨((((rd_T49 (rd_L3 l0 x5_1) x7_2).f0) == ((rd_T49 l1 x7_2).f0) && (((rd_T49 (rd_L3 l0 x5_1) x7_2).f1) == ((rd_T49 l1 x7_2).f1)))), (wrap64 (x7_2 + 1)), sq, sq, H', ⟨by have := HK1.out; have := HK2.out; omega⟩, by repeat (first | exact Drawn0.refl _ | apply Drawn0.step)⟩
           ·rw [if_neg c9] at H
            exact absurd H (by simp)
          ·rw [if_neg c8] at H
           exact absurd H (by simp)
         ·rw [if_neg c7] at H
          exact absurd H (by simp)
        ·rw [if_neg c6] at H
         exact absurd H (by simp)
       ·replace c5 := Bool.eq_false_iff.mpr c5
        subst c5; rw [if_neg (show ¬ (false = true) by decide)] at H; have H' := ak H; clear H; go_wp2
        repeat (go_quiet (fail); try go_wp2)
        go_roundg k2
        case measure => have := HK1.out; have := HK2.out; omega
        case rel => exact ⟨(wrap64 (x5_1 + 1)), sq, H', ⟨by have := HK1.out; have := HK2.out; omega⟩, by repeat (first | exact Drawn0.refl _ | apply Drawn0.step)⟩
      ·rw [if_neg c4] at H
       have c4b0 := decide_eq_false c4; clear c4
       by_cases c10 : x6_2 = true
       ·subst c10
        rw [if_pos rfl] at H; obtain rfl := Option.some.inj H; go_wp2
        repeat (go_quiet (fail); try go_wp2)
        go_ret; exact ⟨sq, by repeat (first | exact Drawn0.refl _ | apply Drawn0.step)⟩
       ·replace c10 := Bool.eq_false_iff.mpr c10
        subst c10; rw [if_neg (show ¬ (false = true) by decide)] at H; have H' := ak H; clear H; go_wp2
        repeat (go_quiet (fail); try go_wp2)
        go_roundg k2
        case measure => have := HK1.out; have := HK2.out; omega
        case rel => exact ⟨(wrap64 (x5_1 + 1)), sq, H', ⟨by have := HK1.out; have := HK2.out; omega⟩, by repeat (first | exact Drawn0.refl _ | apply Drawn0.step)⟩
   ·rw [if_neg c3] at H
    have c3b0 := decide_eq_false c3; clear c3; obtain rfl := Option.some.inj H; go_wp2
    repeat (go_quiet (fail); try go_wp2)
    go_ret; exact ⟨sq, by repeat (first | exact Drawn0.refl _ | apply Drawn0.step)⟩

end Go.Proofs.Ytckhmeadflafaaa.XCb
