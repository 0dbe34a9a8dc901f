/- Functions of the program as plain Lean functions, each with the proof that the machine's call does what it says: written by a program of this session out of the translation. -/
import Derived.Test.YtckhmeadflafaaaXCbx0
import Derived.Test.YtckhmeadflafaaaXCbx1
import Derived.Test.YtckhmeadflafaaaXCbx6
namespace Go.Proofs.Ytckhmeadflafaaa.XCb
open Go.RowKit Go.Proofs.YtckhmeadflafaaaW.PrintWords Go.Proofs.YtckhmeadflafaaaW.PrintLast Go.Proofs.YtckhmeadflafaaaW.PrintMore
attribute [local go_sem] max2_int min2_int max_two min_two max_three min_three max_four min_four   -- for this text's walks alone
set_option linter.unusedVariables false
set_option linter.unusedSimpArgs false

attribute [local go_sem high] eqA49
/-! ### spec_l8Has: function 62 -/
def spec_l8Has.l0 : Nat → List (S49) → Int → Int → Int → Option (Int)
 | 0, _, _, _, _ => none
 | k + 1, x0, x1, x2, x7 => if x7 < (x0.length : Int) then (if 0 ≤ x7 then (if (((rd_T49 x0 x7).f0) == x1 && (((rd_T49 x0 x7).f1) == x2)) = true then (some x7) else (spec_l8Has.l0 k x0 x1 x2 (wrap64 (x7 + 1)))) else (none)) else (some (-1))
def spec_l8Has.f (k : Nat) (l0 : List (S49)) (a1 : Int) (a2 : Int) : Option (Int) := spec_l8Has.l0 k l0 a1 a2 0
theorem spec_l8Has.mono_l : ∀ k, (∀ y0 y1 y2 y3, LeO (spec_l8Has.l0 k y0 y1 y2 y3) (spec_l8Has.l0 (k + 1) y0 y1 y2 y3))
 | 0 => fun _ _ _ _ r h => by simp [spec_l8Has.l0] at h
 | k + 1 => by
  have ih0 := spec_l8Has.mono_l k
  ·intro y0 y1 y2 y3
   unfold spec_l8Has.l0
   repeat' first
   | (with_reducible exact ih0 _ _ _ _)
   | (with_reducible exact LeO.refl _)
   | (with_reducible exact LeO.none _)
   | (with_reducible refine LeO.ite ?_ ?_)
   | (with_reducible refine LeO.bind ?_ (fun _ => ?_))
theorem spec_l8Has.mono : ∀ a0 a1 a2 k, LeO (spec_l8Has.f k a0 a1 a2) (spec_l8Has.f (k + 1) a0 a1 a2) := by
 intro a0 a1 a2 k; have ih0 := spec_l8Has.mono_l k
 unfold spec_l8Has.f
 repeat' first
   | (with_reducible exact ih0 _ _ _ _)
   | (with_reducible exact LeO.refl _)
   | (with_reducible exact LeO.none _)
   | (with_reducible refine LeO.ite ?_ ?_)
   | (with_reducible refine LeO.bind ?_ (fun _ => ?_))
set_option maxHeartbeats 8000000 in
set_option maxRecDepth 100000 in
theorem spec_l8Has.calls (k : Nat) (A0 : Option Addr) (c0 : Nat) (l0 : List (S49)) (a1 : Int) (a2 : Int) (r : Int) (w : World) (hr0 : Kd.C k49 w A0 l0.length l0) (hc0 : l0.length ≤ c0) (h : spec_l8Has.f k l0 a1 a2 = some r) :
  Calls Try.prog 62 #[.slice A0 l0.length c0, .int .i64 a1, .int .i64 a2] w fun e w' => e = .returned (.int .i64 r) ∧ Drawn0 w w' := by
 have hu49 := Try.underlying49; have HR0 := ak hr0; have HC0 := ak hc0; clear hr0 hc0; have H : (spec_l8Has.l0 k l0 a1 a2 0) = some r := h; clear h; have H' := ak H; clear H
 go_enter Try.func62, Try.ntmps62
 go_wp2
 go_loopg [7] k (fun kq v7 w' => ∃ (x7_1 : Int), v7 = .int .i64 x7_1 ∧ Aside0 (spec_l8Has.l0 kq l0 a1 a2 x7_1 = some r) ∧ Aside0 (kq ≤ k) ∧ Drawn0 w w')
 case atStart => exact ⟨(0), sq, H', ⟨Nat.le_refl _⟩, by repeat (first | exact Drawn0.refl _ | apply Drawn0.step)⟩
 case round =>
  clear H'; (try clear p2); obtain ⟨x7_1, rfl, HA, HK1, ⟨m1, rfl⟩⟩ := hrel
  cases gk with
  | zero => exact absurd HA.out (by simp [spec_l8Has.l0])
  | succ k1 =>
   have H := HA.out; clear HA; simp only [spec_l8Has.l0] at H
   by_cases c4 : x7_1 < (l0.length : Int)
   ·rw [if_pos c4] at H
    have c4b0 := decide_eq_true c4; clear c4
    by_cases c5 : 0 ≤ x7_1
    ·rw [if_pos c5] at H
     have c5b0 := decide_eq_true c5; clear c5
     by_cases c6 : (((rd_T49 l0 x7_1).f0) == a1 && (((rd_T49 l0 x7_1).f1) == a2)) = true
     ·rw [if_pos c6] at H
      have c6b0 : (((rd_T49 l0 x7_1).f0) == a1 && (((rd_T49 l0 x7_1).f1) == a2)) = true := c6
      (try (have c6b1 : decide (((rd_T49 l0 x7_1).f0) = a1 && (((rd_T49 l0 x7_1).f1) == a2)) = true := by simpa using c6))
      (try (have c6b2 : (((rd_T49 l0 x7_1).f0) == a1 && (((rd_T49 l0 x7_1).f1) == a2)) = true := by simpa using c6))
      clear c6; obtain rfl := Option.some.inj H; have p178 : 0 ≤ (x7_1 : Int) := dq; have q178 : x7_1 < (l0.length : Int) := dq; obtain ⟨ad178, e178, hx178_0, hx178_1⟩ := at_T49 HR0.out x7_1 p178 q178; cases e178; replace p178 := eq_true p178; replace q178 := eq_true q178; go_wp2; go_ret; exact ⟨sq, by repeat (first | exact Drawn0.refl _ | apply Drawn0.step)⟩
     ·rw [if_neg c6] at H
      have c6b0 : (((rd_T49 l0 x7_1).f0) == a1 && (((rd_T49 l0 x7_1).f1) == a2)) = false := by simpa using c6
      (try (have c6b1 : decide (((rd_T49 l0 x7_1).f0) = a1 && (((rd_T49 l0 x7_1).f1) == a2)) = false := by simpa using c6))
      (try (have c6b2 : (((rd_T49 l0 x7_1).f0) == a1 && (((rd_T49 l0 x7_1).f1) == a2)) = false := by simpa using c6))
      (try (have c6b3 : ¬ (((rd_T49 l0 x7_1).f0) = a1 && (((rd_T49 l0 x7_1).f1) == a2)) := by simpa using c6))
      clear c6; have H' := ak H; clear H; have p178 : 0 ≤ (x7_1 : Int) := dq; have q178 : x7_1 < (l0.length : Int) := dq; obtain ⟨ad178, e178, hx178_0, hx178_1⟩ := at_T49 HR0.out x7_1 p178 q178; cases e178; replace p178 := eq_true p178; replace q178 := eq_true q178; go_wp2; go_roundg k1
      case measure => have := HK1.out; omega
      case rel => exact ⟨(wrap64 (x7_1 + 1)), sq, H', ⟨by have := HK1.out; omega⟩, by repeat (first | exact Drawn0.refl _ | apply Drawn0.step)⟩
    ·rw [if_neg c5] at H
     exact absurd H (by simp)
   ·rw [if_neg c4] at H
    have c4b0 := decide_eq_false c4; clear c4; obtain rfl := Option.some.inj H; go_wp2; go_ret; exact ⟨sq, by repeat (first | exact Drawn0.refl _ | apply Drawn0.step)⟩

/-! ### spec_l8Edge: function 90 -/
mutual
def spec_l8Edge.l0 : Nat → List (S49) → List (S49) → Int → Option ((List (S49)))
 | 0, _, _, _ => none
 | k + 1, x0, x3, x4 => if x4 ≤ 12 then (spec_l8Edge.l1 k x0 x3 x4 (-1)) else (some x3)
def spec_l8Edge.l1 : Nat → List (S49) → List (S49) → Int → Int → Option ((List (S49)))
 | 0, _, _, _, _ => none
 | k + 1, x0, x3, x4, x5 => if x5 ≤ 12 then (spec_l8Edge.l2 k x0 x3 x4 x5 false 0) else (spec_l8Edge.l0 k x0 x3 (wrap64 (x4 + 1)))
def spec_l8Edge.l2 : Nat → List (S49) → List (S49) → Int → Int → Bool → Int → Option ((List (S49)))
 | 0, _, _, _, _, _, _ => none
 | k + 1, x0, x3, x4, x5, x6, x7 => if x7 < (x0.length : Int) then (if x6 = true then (spec_l8Edge.l2 k x0 x3 x4 x5 true (wrap64 (x7 + 1))) else (if 0 ≤ x7 then ((spec_l8Near.f ((rd_T49 x0 x7).f0) ((rd_T49 x0 x7).f1) x4 x5).bind fun t183 => (spec_l8Edge.l2 k x0 x3 x4 x5 t183 (wrap64 (x7 + 1)))) else (none))) else (if x6 = true then ((spec_l8Has.f k x0 x4 x5).bind fun t184 => (if t184 < 0 then (if x3.length < 8796093022208 then (spec_l8Edge.l1 k x0 (x3 ++ [(⟨x4, x5⟩ : S49)]) x4 (wrap64 (x5 + 1))) else (none)) else (spec_l8Edge.l1 k x0 x3 x4 (wrap64 (x5 + 1))))) else (spec_l8Edge.l1 k x0 x3 x4 (wrap64 (x5 + 1))))
end
def spec_l8Edge.f (k : Nat) (l0 : List (S49)) : Option ((List (S49))) := spec_l8Edge.l0 k l0 (([] : List (S49))) (-1)
theorem spec_l8Edge.mono_l : ∀ k, (∀ y0 y1 y2, LeO (spec_l8Edge.l0 k y0 y1 y2) (spec_l8Edge.l0 (k + 1) y0 y1 y2)) ∧ (∀ y0 y1 y2 y3, LeO (spec_l8Edge.l1 k y0 y1 y2 y3) (spec_l8Edge.l1 (k + 1) y0 y1 y2 y3)) ∧ (∀ y0 y1 y2 y3 y4 y5, LeO (spec_l8Edge.l2 k y0 y1 y2 y3 y4 y5) (spec_l8Edge.l2 (k + 1) y0 y1 y2 y3 y4 y5))
 | 0 => ⟨fun _ _ _ r h => by simp [spec_l8Edge.l0] at h, fun _ _ _ _ r h => by simp [spec_l8Edge.l1] at h, fun _ _ _ _ _ _ r h => by simp [spec_l8Edge.l2] at h⟩
 | k + 1 => by
  obtain ⟨ih0, ih1, ih2⟩ := spec_l8Edge.mono_l k; refine ⟨?_, ?_, ?_⟩
  ·intro y0 y1 y2
   unfold spec_l8Edge.l0
   repeat' first
   | (with_reducible exact ih0 _ _ _)
   | (with_reducible exact ih1 _ _ _ _)
   | (with_reducible exact ih2 _ _ _ _ _ _)
   | (with_reducible exact spec_l8Has.mono _ _ _ _)
   | (with_reducible exact LeO.refl _)
   | (with_reducible exact LeO.none _)
   | (with_reducible refine LeO.ite ?_ ?_)
   | (with_reducible refine LeO.bind ?_ (fun _ => ?_))
  ·intro y0 y1 y2 y3
   unfold spec_l8Edge.l1
   repeat' first
   | (with_reducible exact ih0 _ _ _)
   | (with_reducible exact ih1 _ _ _ _)
   | (with_reducible exact ih2 _ _ _ _ _ _)
   | (with_reducible exact spec_l8Has.mono _ _ _ _)
   | (with_reducible exact LeO.refl _)
   | (with_reducible exact LeO.none _)
   | (with_reducible refine LeO.ite ?_ ?_)
   | (with_reducible refine LeO.bind ?_ (fun _ => ?_))
  ·intro y0 y1 y2 y3 y4 y5
   unfold spec_l8Edge.l2
   repeat' first
   | (with_reducible exact ih0 _ _ _)
   | (with_reducible exact ih1 _ _ _ _)
   | (with_reducible exact ih2 _ _ _ _ _ _)
   | (with_reducible exact spec_l8Has.mono _ _ _ _)
   | (with_reducible exact LeO.refl _)
   | (with_reducible exact LeO.none _)
   | (with_reducible refine LeO.ite ?_ ?_)
   | (with_reducible refine LeO.bind ?_ (fun _ => ?_))
theorem spec_l8Edge.mono : ∀ a0 k, LeO (spec_l8Edge.f k a0) (spec_l8Edge.f (k + 1) a0) := by
 intro a0 k; obtain ⟨ih0, ih1, ih2⟩ := spec_l8Edge.mono_l k
 unfold spec_l8Edge.f
 repeat' first
   | (with_reducible exact ih0 _ _ _)
   | (with_reducible exact ih1 _ _ _ _)
   | (with_reducible exact ih2 _ _ _ _ _ _)
   | (with_reducible exact spec_l8Has.mono _ _ _ _)
   | (with_reducible exact LeO.refl _)
   | (with_reducible exact LeO.none _)
   | (with_reducible refine LeO.ite ?_ ?_)
   | (with_reducible refine LeO.bind ?_ (fun _ => ?_))
set_option maxHeartbeats 8000000 in
set_option maxRecDepth 100000 in
theorem spec_l8Edge.calls (k : Nat) (A0 : Option Addr) (c0 : Nat) (l0 : List (S49)) (r : List (S49)) (w : World) (hr0 : Kd.C k49 w A0 l0.length l0) (hc0 : l0.length ≤ c0) (h : spec_l8Edge.f k l0 = some r) :
  Calls Try.prog 90 #[.slice A0 l0.length c0] w fun e w' => ∃ v0_ : Value, e = .returned (v0_) ∧ Kd.R k49 49 w' w.heap.size (fun _ => True) v0_ r ∧ Below w.heap.size w w' := by
 have hu49 := Try.underlying49; have HR0 := ak hr0; have HC0 := ak hc0; clear hr0 hc0; have HB := ak (Below.refl w.heap.size w); have H : (spec_l8Edge.l0 k l0 (([] : List (S49))) (-1)) = some r := h; clear h; obtain ⟨y179, hy179⟩ : ∃ y_ : List (S49), y_ = (([] : List (S49))) := ⟨_, rfl⟩
 replace H : (spec_l8Edge.l0 k l0 y179 (-1)) = some r := by first | (rw [hy179]; with_reducible exact H) | (have H2_ := (Option.bind_some _ _).symm.trans H; rw [hy179]; with_reducible exact H2_) | (have H2_ := (Option.bind_some _ _).symm.trans H; with_reducible exact H2_) | with_reducible exact H | (rw [hy179]; exact H) | exact H
 have Ny179 := ak hy179; clear hy179; have H' := ak H; clear H
 go_enter Try.func90, Try.ntmps90
 go_wp2_with (first | ((with_reducible refine gate_dst (N := 8) rfl ?_); refine Kd.R_lit k49 _ 49 ?hg (N := 8) ?hd (xs := ([] : List (S49))) (inner := []) (ok := fun _ => True) (okp := fun _ => True) ?hr ?hp (fun _ hk => hk) trivial (Below.refl _ _) (Nat.le_refl _) (by simp) ?_; (case hd => rfl); (case hg => rfl); (case hr => first | (go_simp; done) | (go_simp; rfl)); (case hp => exact (Reps.none _ _)); intro v180 w2 ho3 hb hg_ hnew_; clear hg_ hnew_; (first | rw [← Ny179.out] at ho3 | (simp only [Int.reduceToNat] at ho3; rw [← Ny179.out] at ho3)); have n0_ := ak (Kd.R_lower ho3 (below_size bq)); have n1_ := ak (below_step bq hb); clear HB; have HO181 := n0_; have HB := n1_; clear n0_ n1_; clear hb ho3))
 (try simp only [Act.put, sA, sZ, sS])
 go_loopg [3, 4] k (fun kq v3 v4 w' => ∃ (x3_1 : List (S49)) (x4_1 : Int), v4 = .int .i64 x4_1 ∧ Aside0 (spec_l8Edge.l0 kq l0 x3_1 x4_1 = some r) ∧ Aside0 (kq ≤ k) ∧ Aside0 (Kd.R k49 49 w' w.heap.size (fun _ => True) v3 x3_1) ∧ Aside0 (Below w.heap.size w w'))
 case atStart => exact ⟨(y179), ((-1)), sq, H', ⟨Nat.le_refl _⟩, ⟨rq HO181⟩, ⟨bq⟩⟩
 case round =>
  clear H'; (try clear p2); obtain ⟨x3_1, x4_1, rfl, HA, HK1, HO_3, HB⟩ := hrel
  cases gk with
  | zero => exact absurd HA.out (by simp [spec_l8Edge.l0])
  | succ k1 =>
   have H := HA.out; clear HA; simp only [spec_l8Edge.l0] at H
   by_cases c4 : x4_1 ≤ 12
   ·rw [if_pos c4] at H
    have c4b0 := decide_eq_true c4; clear c4; have H' := ak H; clear H; go_wp2
    go_loopg [3, 5] k1 (fun kq v3 v5 w' => ∃ (x3_2 : List (S49)) (x5_2 : Int), v5 = .int .i64 x5_2 ∧ Aside0 (spec_l8Edge.l1 kq l0 x3_2 x4_1 x5_2 = some r) ∧ Aside0 (kq ≤ k1) ∧ Aside0 (Kd.R k49 49 w' w.heap.size (fun _ => True) v3 x3_2) ∧ Aside0 (Below w.heap.size w w'))
    case atStart => exact ⟨(x3_1), ((-1)), sq, H', ⟨Nat.le_refl _⟩, ⟨rq HO_3⟩, ⟨bq⟩⟩
    case round =>
     clear H'; (try clear p2); (try clear c4); (try clear c4b0); (try clear p2); obtain ⟨x3_2, x5_2, rfl, HA, HK2, HO_3, HB⟩ := hrel
     cases gk with
     | zero => exact absurd HA.out (by simp [spec_l8Edge.l1])
     | succ k2 =>
      have H := HA.out; clear HA; simp only [spec_l8Edge.l1] at H
      by_cases c5 : x5_2 ≤ 12
      ·rw [if_pos c5] at H
       have c5b0 := decide_eq_true c5; clear c5; have H' := ak H; clear H; go_wp2
       go_loopg [6, 7] k2 (fun kq v6 v7 w' => ∃ (x6_3 : Bool) (x7_3 : Int), v6 = .bool x6_3 ∧ v7 = .int .i64 x7_3 ∧ Aside0 (spec_l8Edge.l2 kq l0 x3_2 x4_1 x5_2 x6_3 x7_3 = some r) ∧ Aside0 (kq ≤ k2) ∧ Aside0 (Kd.R k49 49 w' w.heap.size (fun _ => True) u3 x3_2) ∧ Aside0 (Below w.heap.size w w'))
       case atStart => exact ⟨(false), (0), sq, sq, H', ⟨Nat.le_refl _⟩, ⟨rq HO_3⟩, ⟨bq⟩⟩
       case round =>
        clear H'; (try clear p2); (try clear c4); (try clear c4b0); (try clear c5); (try clear c5b0); (try clear p2); obtain ⟨x6_3, x7_3, rfl, rfl, HA, HK3, HO_3, HB⟩ := hrel
        cases gk with
        | zero => exact absurd HA.out (by simp [spec_l8Edge.l2])
        | succ k3 =>
         have H := HA.out; clear HA; simp only [spec_l8Edge.l2] at H
         by_cases c6 : x7_3 < (l0.length : Int)
         ·rw [if_pos c6] at H
          have c6b0 := decide_eq_true c6; clear c6
          by_cases c7 : x6_3 = true
          ·subst c7
           rw [if_pos rfl] at H; have H' := ak H; clear H; go_wp2; go_roundg k3
           case measure => have := HK1.out; have := HK2.out; have := HK3.out; omega
           case rel => exact ⟨(true), (wrap64 (x7_3 + 1)), sq, sq, H', ⟨by have := HK1.out; have := HK2.out; have := HK3.out; omega⟩, ⟨rq HO_3⟩, ⟨bq⟩⟩
          ·replace c7 := Bool.eq_false_iff.mpr c7
           subst c7; rw [if_neg (show ¬ (false = true) by decide)] at H
           by_cases c8 : 0 ≤ x7_3
           ·rw [if_pos c8] at H
            have c8b0 := decide_eq_true c8; clear c8; obtain ⟨t183, A90, H⟩ := Option.bind_eq_some_iff.mp H
            (try dsimp only at H)
            have A9 := ak A90; clear A90; have H' := ak H; clear H; have p182 : 0 ≤ (x7_3 : Int) := dq; have q182 : x7_3 < (l0.length : Int) := dq; obtain ⟨ad182, e182, hx182_0, hx182_1⟩ := at_T49 HR0.out x7_3 p182 q182; cases e182; replace hx182_0 := hb_ HB hx182_0; replace hx182_1 := hb_ HB hx182_1; replace p182 := eq_true p182; replace q182 := eq_true q182
            go_wp2_with (first | (go_at_call 109; (with_reducible refine (spec_l8Near.calls ((rd_T49 l0 x7_3).f0) ((rd_T49 l0 x7_3).f1) x4_1 x5_2 t183 _ A9.out).mono ?_); rintro e w10 ⟨rfl, hb⟩; have n0_ := ak (Kd.R_below (rq HO_3) hb); have n1_ := ak (below_step bq hb); clear HO_3; clear HB; have HO_3 := n0_; have HB := n1_; clear n0_ n1_; (try clear hb); (try clear hb2); (try clear hk); (try clear hi)))
            go_roundg k3
            case measure => have := HK1.out; have := HK2.out; have := HK3.out; omega
            case rel => exact ⟨(t183), (wrap64 (x7_3 + 1)), sq, sq, H', ⟨by have := HK1.out; have := HK2.out; have := HK3.out; omega⟩, ⟨rq HO_3⟩, ⟨bq⟩⟩
           ·rw [if_neg c8] at H
            exact absurd H (by simp)
         ·rw [if_neg c6] at H
          have c6b0 := decide_eq_false c6; clear c6
          by_cases c11 : x6_3 = true
          ·subst c11
           rw [if_pos rfl] at H; obtain ⟨t184, A120, H⟩ := Option.bind_eq_some_iff.mp H
           (try dsimp only at H)
           have A12 := ak A120; clear A120
           by_cases c13 : t184 < 0
           ·rw [if_pos c13] at H
            have c13b0 := decide_eq_true c13; clear c13
            by_cases c14 : x3_2.length < 8796093022208
            ·rw [if_pos c14] at H
             have LMc14 := ak c14; clear c14; obtain ⟨y185, hy185⟩ : ∃ y_ : List (S49), y_ = (x3_2 ++ [(⟨x4_1, x5_2⟩ : S49)]) := ⟨_, rfl⟩
             replace H : (spec_l8Edge.l1 k3 l0 y185 x4_1 (wrap64 (x5_2 + 1))) = some r := by first | (rw [hy185]; with_reducible exact H) | (have H2_ := (Option.bind_some _ _).symm.trans H; rw [hy185]; with_reducible exact H2_) | (have H2_ := (Option.bind_some _ _).symm.trans H; with_reducible exact H2_) | with_reducible exact H | (rw [hy185]; exact H) | exact H
             have Ny185 := ak hy185; clear hy185; have H' := ak H; clear H
             go_wp2_with (first | (go_at_call 62; (with_reducible refine (spec_l8Has.calls k3 _ _ l0 x4_1 x5_2 t184 _ ?side1 ?side2 A12.out).mono ?_); (case side1 => exact cq (Kd.C_below HR0.out HB.out)); (case side2 => exact HC0.out); rintro e w' ⟨rfl, ⟨nd, rfl⟩⟩) | ((with_reducible refine gate_builtin (b := .append) (xs := #[.tmp 42, .tmp 46]) rfl ?_); at_builtin; refine Kd.R_append k49 (w0 := w) w.heap.size rfl (.tmp 42) (.tmp 46) 22 49 (.agg #[(.int .i64 0), (.int .i64 0)]) 16 rfl Try.underlying22 info49 rfl (by decide) (by omega) u3 x3_2 (⟨x4_1, x5_2⟩ : S49) [.int .i64 x4_1, .int .i64 x5_2] (fun _ => True) (fun _ => False) rfl rfl ?aP (fun _ hk => hk.elim) ?aF ?aO ?aB ?aS ?aL ?_; (case aP => exact k49_mkM _ _ _ (⟨x4_1, x5_2⟩ : S49)); (case aB => exact bq); (case aF => exact (fun _ _ => trivial)); (case aO => exact (rq HO_3)); (case aS => exact (below_size bq)); (case aL => have := LMc14.out; omega); intro v186 w15 ho hb hg hat; rw [← Ny185.out] at ho; have n0_ := ak (hb); have n1_ := ak (ho); clear HB; clear HO_3; have HB := n0_; have HO187 := n1_; clear n0_ n1_; clear ho hb hg hat))
             go_roundg k3
             case measure => have := HK1.out; have := HK2.out; have := HK3.out; omega
             case rel => exact ⟨(y185), (wrap64 (x5_2 + 1)), sq, H', ⟨by have := HK1.out; have := HK2.out; have := HK3.out; omega⟩, ⟨rq HO187⟩, ⟨bq⟩⟩
            ·rw [if_neg c14] at H
             exact absurd H (by simp)
           ·rw [if_neg c13] at H
            have c13b0 := decide_eq_false c13; clear c13; have H' := ak H; clear H
            go_wp2_with (first | (go_at_call 62; (with_reducible refine (spec_l8Has.calls k3 _ _ l0 x4_1 x5_2 t184 _ ?side1 ?side2 A12.out).mono ?_); (case side1 => exact cq (Kd.C_below HR0.out HB.out)); (case side2 => exact HC0.out); rintro e w' ⟨rfl, ⟨nd, rfl⟩⟩))
            go_roundg k3
            case measure => have := HK1.out; have := HK2.out; have := HK3.out; omega
            case rel => exact ⟨(x3_2), (wrap64 (x5_2 + 1)), sq, H', ⟨by have := HK1.out; have := HK2.out; have := HK3.out; omega⟩, ⟨rq HO_3⟩, ⟨bq⟩⟩
          ·replace c11 := Bool.eq_false_iff.mpr c11
           subst c11; rw [if_neg (show ¬ (false = true) by decide)] at H; have H' := ak H; clear H; go_wp2; go_roundg k3
           case measure => have := HK1.out; have := HK2.out; have := HK3.out; omega
           case rel => exact ⟨(x3_2), (wrap64 (x5_2 + 1)), sq, H', ⟨by have := HK1.out; have := HK2.out; have := HK3.out; omega⟩, ⟨rq HO_3⟩, ⟨bq⟩⟩
      ·rw [if_neg c5] at H
       have c5b0 := decide_eq_false c5; clear c5; have H' := ak H; clear H; go_wp2; go_roundg k2
       case measure => have := HK1.out; have := HK2.out; omega
       case rel => exact ⟨(x3_2), (wrap64 (x4_1 + 1)), sq, H', ⟨by have := HK1.out; have := HK2.out; omega⟩, ⟨rq HO_3⟩, ⟨bq⟩⟩
   ·rw [if_neg c4] at H
    have c4b0 := decide_eq_false c4; clear c4; obtain rfl := Option.some.inj H; go_wp2; go_ret; exact ⟨_, eq_, rq HO_3, bq⟩

end Go.Proofs.Ytckhmeadflafaaa.XCb
