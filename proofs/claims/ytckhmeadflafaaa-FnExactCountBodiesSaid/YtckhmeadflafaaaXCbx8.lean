/- Functions of the program as plain Lean functions, each with the proof that the machine's call does what it says: written by a program of this session out of the translation. -/
import Derived.Test.YtckhmeadflafaaaXCbx0
import Derived.Test.YtckhmeadflafaaaXCbx6
import Derived.Test.YtckhmeadflafaaaXCbx7
namespace Go.Proofs.Ytckhmeadflafaaa.XCb
open Go.RowKit Go.Proofs.YtckhmeadflafaaaW.PrintWords Go.Proofs.YtckhmeadflafaaaW.PrintLast Go.Proofs.YtckhmeadflafaaaW.PrintMore
attribute [local go_sem] max2_int min2_int max_two min_two max_three min_three max_four min_four   -- for this text's walks alone
set_option linter.unusedVariables false
set_option linter.unusedSimpArgs false

/-! ### spec_l8Body: function 55 -/
mutual
def spec_l8Body.l0 : Nat → List (S49) → Int → Int → Int → Option (Bool)
 | 0, _, _, _, _ => none
 | k + 1, x0, x3, x4, x5 => if x5 < (x0.length : Int) then (if 0 ≤ x5 then ((spec_l1In.f ((rd_T49 x0 x5).f0) 0 12).bind fun t168 => (if t168 = true then ((spec_l1In.f ((rd_T49 x0 x5).f1) 0 12).bind fun t170 => (if t170 = true then (if x5 > 0 then (if 0 ≤ (wrap64 (x5 - 1)) then (if (wrap64 (x5 - 1)) < (x0.length : Int) then ((spec_l8Before.f ((rd_T49 x0 (wrap64 (x5 - 1))).f0) ((rd_T49 x0 (wrap64 (x5 - 1))).f1) ((rd_T49 x0 x5).f0) ((rd_T49 x0 x5).f1)).bind fun t173 => (spec_l8Body.j1 k x0 x3 x4 x5 (!t173))) else (none)) else (none)) else (spec_l8Body.j1 k x0 x3 x4 x5 false)) else (spec_l8Body.j1 k x0 x3 x4 x5 true))) else (spec_l8Body.j1 k x0 x3 x4 x5 true))) else (none)) else (if x3 = 0 then (if x4 = 0 then ((spec_l8Hangs.f k x0).bind fun t166 => (some t166)) else (some false)) else (some false))
def spec_l8Body.j1 : Nat → List (S49) → Int → Int → Int → Bool → Option (Bool)
 | 0, _, _, _, _, _ => none
 | k + 1, x0, x3, x4, x5, x56 => if x56 = true then (some false) else (if 0 ≤ x5 then (if x5 < (x0.length : Int) then ((spec_l1Least.f x3 ((rd_T49 x0 x5).f0)).bind fun t175 => ((spec_l1Least.f x4 ((rd_T49 x0 x5).f1)).bind fun t177 => (spec_l8Body.l0 k x0 t175 t177 (wrap64 (x5 + 1))))) else (none)) else (none))
end
def spec_l8Body.f (k : Nat) (l0 : List (S49)) : Option (Bool) := (spec_l1In.f (l0.length : Int) 1 12).bind fun t163 => (if t163 = true then (if 0 < (l0.length : Int) then (spec_l8Body.l0 k l0 ((rd_T49 l0 0).f0) ((rd_T49 l0 0).f1) 0) else (none)) else (some false))
theorem spec_l8Body.mono_l : ∀ k, (∀ y0 y1 y2 y3, LeO (spec_l8Body.l0 k y0 y1 y2 y3) (spec_l8Body.l0 (k + 1) y0 y1 y2 y3)) ∧ (∀ y0 y1 y2 y3 y4, LeO (spec_l8Body.j1 k y0 y1 y2 y3 y4) (spec_l8Body.j1 (k + 1) y0 y1 y2 y3 y4))
 | 0 => ⟨fun _ _ _ _ r h => by simp [spec_l8Body.l0] at h, fun _ _ _ _ _ r h => by simp [spec_l8Body.j1] at h⟩
 | k + 1 => by
  obtain ⟨ih0, ih1⟩ := spec_l8Body.mono_l k; refine ⟨?_, ?_⟩
  ·intro y0 y1 y2 y3
   unfold spec_l8Body.l0
   repeat' first
   | (with_reducible exact ih0 _ _ _ _)
   | (with_reducible exact ih1 _ _ _ _ _)
   | (with_reducible exact spec_l8Hangs.mono _ _)
   | (with_reducible exact LeO.refl _)
   | (with_reducible exact LeO.none _)
   | (with_reducible refine LeO.ite ?_ ?_)
   | (with_reducible refine LeO.bind ?_ (fun _ => ?_))
  ·intro y0 y1 y2 y3 y4
   unfold spec_l8Body.j1
   repeat' first
   | (with_reducible exact ih0 _ _ _ _)
   | (with_reducible exact ih1 _ _ _ _ _)
   | (with_reducible exact spec_l8Hangs.mono _ _)
   | (with_reducible exact LeO.refl _)
   | (with_reducible exact LeO.none _)
   | (with_reducible refine LeO.ite ?_ ?_)
   | (with_reducible refine LeO.bind ?_ (fun _ => ?_))
theorem spec_l8Body.mono : ∀ a0 k, LeO (spec_l8Body.f k a0) (spec_l8Body.f (k + 1) a0) := by
 intro a0 k; obtain ⟨ih0, ih1⟩ := spec_l8Body.mono_l k
 unfold spec_l8Body.f
 repeat' first
   | (with_reducible exact ih0 _ _ _ _)
   | (with_reducible exact ih1 _ _ _ _ _)
   | (with_reducible exact spec_l8Hangs.mono _ _)
   | (with_reducible exact LeO.refl _)
   | (with_reducible exact LeO.none _)
   | (with_reducible refine LeO.ite ?_ ?_)
   | (with_reducible refine LeO.bind ?_ (fun _ => ?_))
def spec_l8Body.T3 : Bool × List (List Nat × List Nat) := (true, [([], []), ([0], [0]), ([1], [1]), ([2], [2]), ([], []), ([4], [4]), ([5], [5]), ([6], [6]), ([3, 0, 1, 2, 3], [3]), ([7, 8, 0, 1, 2, 3, 4, 5, 6, 7, 8], [7])])
def spec_l8Body.B3 : List Nat := [0, 1, 3, 7, 0, 16, 48, 112, 15, 511]
theorem spec_l8Body.tab3 : rtab .any (opsOf Try.f55 3) = spec_l8Body.T3 := by kernel_rfl
theorem spec_l8Body.bits3 : waitsOk spec_l8Body.T3.2 spec_l8Body.B3 = true := by kernel_rfl
def spec_l8Body.T7 : Bool × List (List Nat × List Nat) := (true, [([], []), ([], []), ([0, 1], [0, 1]), ([2], [2]), ([3], [3]), ([4], [4]), ([5], [5]), ([6, 5], [6]), ([7], [7]), ([7], [7]), ([8, 9, 7], [7, 8, 9]), ([10, 7], [7, 10]), ([11, 7], [7, 11]), ([12, 7, 7], [7, 12]), ([13, 7], [7, 13]), ([7, 14], [7, 14]), ([15, 13], [15]), ([16], [16]), ([17, 16], [16, 17]), ([18, 16, 16], [16, 18]), ([19], [19]), ([19], [19]), ([21, 19], [19, 21]), ([20, 22, 19], [19, 20, 22]), ([23, 19], [19, 23]), ([19], [19]), ([19], [19]), ([25, 26, 19], [19, 25, 26]), ([27, 19], [19, 27]), ([24, 28, 19, 19], [19, 24, 28]), ([29, 19], [19, 29]), ([19, 30, 16], [16, 19, 30]), ([16, 31], [16, 31])])
def spec_l8Body.B7 : List Nat := [0, 0, 3, 7, 15, 31, 63, 127, 255, 255, 1023, 2047, 4095, 8191, 16383, 32767, 65535, 131071, 262143, 524287, 1048575, 1048575, 3145727, 8388607, 16777215, 1048575, 1048575, 101711871, 235929599, 536870911, 1073741823, 2147483647, 4294967295]
theorem spec_l8Body.tab7 : rtab .any (opsOf Try.f55 7) = spec_l8Body.T7 := by kernel_rfl
theorem spec_l8Body.bits7 : waitsOk spec_l8Body.T7.2 spec_l8Body.B7 = true := by kernel_rfl
set_option maxHeartbeats 8000000 in
set_option maxRecDepth 100000 in
theorem spec_l8Body.calls (k : Nat) (A0 : Option Addr) (c0 : Nat) (l0 : List (S49)) (r : Bool) (w : World) (hr0 : Kd.C k49 w A0 l0.length l0) (hc0 : l0.length ≤ c0) (h : spec_l8Body.f k l0 = some r) :
  Calls Try.prog 55 #[.slice A0 l0.length c0] w fun e w' => e = .returned (.bool r) ∧ Below w.heap.size w w' := by
 have hu49 := Try.underlying49; have HR0 := ak hr0; have HC0 := ak hc0; clear hr0 hc0; have HB := ak (Below.refl w.heap.size w); have H : ((spec_l1In.f (l0.length : Int) 1 12).bind fun t163 => (if t163 = true then (if 0 < (l0.length : Int) then (spec_l8Body.l0 k l0 ((rd_T49 l0 0).f0) ((rd_T49 l0 0).f1) 0) else (none)) else (some false))) = some r := h; clear h; obtain ⟨t163, A20, H⟩ := Option.bind_eq_some_iff.mp H
 (try dsimp only at H)
 have A2 := ak A20; clear A20
 by_cases c3 : t163 = true
 ·subst c3
  rw [if_pos rfl] at H
  by_cases c4 : 0 < (l0.length : Int)
  ·rw [if_pos c4] at H
   have c4b0 := decide_eq_true c4; have c4b1 : decide (0 < l0.length) = true := decide_eq_true (by omega); clear c4; have H' := ak H; clear H
   go_enter Try.func55, Try.ntmps55
   try go_wp2_with (first | ((with_reducible refine gate_callee (f := 60) rfl ?_); refine goesL_ (some 8) rfl rfl Try.func60 (by kernel_rfl) rfl #[.int .i64 (l0.length : Int), .int .i64 1, .int .i64 12] rfl aq ?_; (with_reducible refine (spec_l1In.calls (l0.length : Int) 1 12 true _ A2.out).mono ?_); rintro e w' ⟨rfl, ⟨nd, rfl⟩⟩; refine ⟨_, rfl, ?_⟩))
   have n0_ := ak (below_drew1 HB.out); clear HB; have HB := n0_; clear n0_; have p164 : 0 ≤ (0 : Int) := (by omega); have q164 : 0 < (l0.length : Int) := dq; obtain ⟨ad164, e164, hx164_0, hx164_1⟩ := at_T49 HR0.out 0 p164 q164; have hw164_1 := hx164_1
   (try rw [show ((0 : Int)).toNat = 0 from rfl] at hw164_1)
   (try rw [show 0 * 2 = 0 from rfl] at hw164_1)
   (try rw [Addr.add_zero'] at hw164_1)
   have hw164_0 := hx164_0
   (try rw [show ((0 : Int)).toNat = 0 from rfl] at hw164_0)
   (try rw [show 0 * 2 = 0 from rfl] at hw164_0)
   (try rw [Addr.add_zero'] at hw164_0)
   cases e164; have qi164 : (0 < l0.length) = True := eq_true (by omega)
   (try rw [show ((0 : Int)).toNat = 0 from rfl] at hx164_0)
   (try rw [show 0 * 2 = 0 from rfl] at hx164_0)
   (try rw [Addr.add_zero'] at hx164_0)
   (try rw [show ((0 : Int)).toNat = 0 from rfl] at hx164_1)
   (try rw [show 0 * 2 = 0 from rfl] at hx164_1)
   (try rw [Addr.add_zero'] at hx164_1)
   replace hx164_0 := hb_ HB hx164_0; replace hx164_1 := hb_ HB hx164_1; replace p164 := eq_true p164; replace q164 := eq_true q164; have p165 : 0 ≤ (0 : Int) := (by omega); have q165 : 0 < (l0.length : Int) := dq; obtain ⟨ad165, e165, hx165_0, hx165_1⟩ := at_T49 HR0.out 0 p165 q165; have hw165_1 := hx165_1
   (try rw [show ((0 : Int)).toNat = 0 from rfl] at hw165_1)
   (try rw [show 0 * 2 = 0 from rfl] at hw165_1)
   (try rw [Addr.add_zero'] at hw165_1)
   have hw165_0 := hx165_0
   (try rw [show ((0 : Int)).toNat = 0 from rfl] at hw165_0)
   (try rw [show 0 * 2 = 0 from rfl] at hw165_0)
   (try rw [Addr.add_zero'] at hw165_0)
   obtain rfl : ad164 = ad165 := (by injection e165); have qi165 : (0 < l0.length) = True := eq_true (by omega)
   (try rw [show ((0 : Int)).toNat = 0 from rfl] at hx165_0)
   (try rw [show 0 * 2 = 0 from rfl] at hx165_0)
   (try rw [Addr.add_zero'] at hx165_0)
   (try rw [show ((0 : Int)).toNat = 0 from rfl] at hx165_1)
   (try rw [show 0 * 2 = 0 from rfl] at hx165_1)
   (try rw [Addr.add_zero'] at hx165_1)
   replace hx165_0 := hb_ HB hx165_0; replace hx165_1 := hb_ HB hx165_1; replace p165 := eq_true p165; replace q165 := eq_true q165; refine start_ (n := 10) (S := fun w' => w'.cell? ad164 = some (.int .i64 ((rd_T49 l0 0).f0)) ∧ w'.cell? ⟨ad164.block, ad164.off + 1, none⟩ = some (.int .i64 ((rd_T49 l0 0).f1)) ∧ w'.cell? ad164 = some (.int .i64 ((rd_T49 l0 0).f0)) ∧ w'.cell? ⟨ad164.block, ad164.off + 1, none⟩ = some (.int .i64 ((rd_T49 l0 0).f1))) (ds := []) #[Z,Z,Z,Z,Z,Z,Z,Z,Z,Z] (by kernel_rfl) rfl rfl ⟨((hb_ HB hw164_0).trans rfl), ((hb_ HB hw164_1).trans rfl), ((hb_ HB hw165_0).trans rfl), ((hb_ HB hw165_1).trans rfl)⟩ (fun hHeld => ?_); refine with_tabW spec_l8Body.tab3 spec_l8Body.bits3 (fun HT_ HW_ => ?_)
   generalize w.drew = w5 at HB hx164_0 hx164_1 hx165_0 hx165_1 hHeld ⊢
   refine pq_ (i := 0) (N := some 10) #[Y,Z,Z,Z,Z,Z,Z,Z,Z,Z] HT_ ?_; refine pq_ (i := 1) (N := some 11) #[Y,Y,Z,Z,Z,Z,Z,Z,Z,Z] HT_ ?_; refine pq_ (i := 2) (N := some 12) #[Y,Y,Y,Z,Z,Z,Z,Z,Z,Z] HT_ ?_; refine pq_ (i := 4) (N := some 14) #[Y,Y,Y,Z,Y,Z,Z,Z,Z,Z] HT_ ?_; refine pq_ (i := 5) (N := some 15) #[Y,Y,Y,Z,Y,Y,Z,Z,Z,Z] HT_ ?_; refine pq_ (i := 6) (N := some 16) #[Y,Y,Y,Z,Y,Y,Y,Z,Z,Z] HT_ ?_; refine tk_ (i := 3) (N := some 13) #[Y,Y,Y,Y,Y,Y,Y,Z,Z,Z] HT_ HW_ hHeld ?_; refine pq_ (i := 8) (N := some 3) #[Y,Y,Y,Y,Y,Y,Y,Z,Y,Z] HT_ ?_; refine tk_ (i := 7) (N := some 17) #[Y,Y,Y,Y,Y,Y,Y,Y,Y,Z] HT_ HW_ hHeld ?_; refine pq_ (i := 9) (N := some 4) #[Y,Y,Y,Y,Y,Y,Y,Y,Y,Y] HT_ ?_; refine done_ (done_of HT_.out (by kernel_rfl)) ?_; (try go_wp2)
   go_loopg [3, 4, 5] k (fun kq v3 v4 v5 w' => ∃ (x3_1 : Int) (x4_1 : Int) (x5_1 : Int), v3 = .int .i64 x3_1 ∧ v4 = .int .i64 x4_1 ∧ v5 = .int .i64 x5_1 ∧ Aside0 (spec_l8Body.l0 kq l0 x3_1 x4_1 x5_1 = some r) ∧ Aside0 (kq ≤ k) ∧ Aside0 (Below w.heap.size w w'))
   case atStart => exact ⟨((rd_T49 l0 0).f0), ((rd_T49 l0 0).f1), (0), sq, sq, sq, H', ⟨Nat.le_refl _⟩, ⟨bq⟩⟩
   case round =>
    clear H'; (try clear p1); (try clear q1); (try clear hx1); (try clear qi1); (try clear p2); (try clear c3); (try clear c4); (try clear c4b0); (try clear c4b1); (try clear c5); (try clear hx164_0); (try clear hx164_1); (try clear hx165_0); (try clear hx165_1); (try clear p164); (try clear p165); (try clear q164); (try clear q165); obtain ⟨x3_1, x4_1, x5_1, rfl, rfl, rfl, HA, HK1, HB⟩ := hrel
    cases gk with
    | zero => exact absurd HA.out (by simp [spec_l8Body.l0])
    | succ k1 =>
     have H := HA.out; clear HA; simp only [spec_l8Body.l0] at H
     by_cases c6 : x5_1 < (l0.length : Int)
     ·rw [if_pos c6] at H
      have c6b0 := decide_eq_true c6; clear c6; have HC7 := ak H; clear H
      go_upto_region 7 with (fail)
      go_cut [56] (fun v56 wc => ∃ (kq : Nat) (x56_6 : Bool), v56 = .bool x56_6 ∧ Aside0 (spec_l8Body.j1 kq l0 x3_1 x4_1 x5_1 x56_6 = some r) ∧ Aside0 (kq ≤ k1) ∧ Aside0 (Below w.heap.size w wc))
      case first =>
       have H := HC7.out; clear HC7
       by_cases c8 : 0 ≤ x5_1
       ·rw [if_pos c8] at H
        have c8b0 := decide_eq_true c8; clear c8
        (first | rw [c8b0] | rw [c8b1] | (simp only [i64_w, i32_w]; rw [c8b0]) | skip)
        obtain ⟨t168, A90, H⟩ := Option.bind_eq_some_iff.mp H
        (try dsimp only at H)
        have A9 := ak A90; clear A90
        by_cases c10 : t168 = true
        ·subst c10
         rw [if_pos rfl] at H; obtain ⟨t170, A110, H⟩ := Option.bind_eq_some_iff.mp H
         (try dsimp only at H)
         have A11 := ak A110; clear A110
         by_cases c12 : t170 = true
         ·subst c12
          rw [if_pos rfl] at H
          by_cases c13 : x5_1 > 0
          ·rw [if_pos c13] at H
           have c13b0 : decide (0 < x5_1) = true := decide_eq_true c13; clear c13; obtain ⟨ji14, hji14⟩ : ∃ j_ : Int, (wrap64 (x5_1 - 1)) = j_ := ⟨_, rfl⟩
           (first | rw [hji14] at H | simp only [hji14] at H)
           (try rw [hji14] at A9)
           (try rw [hji14] at A11)
           have hji14w : (IntKind.i64.wrap (x5_1 - 1)) = ji14 := (i64_w _).trans hji14
           by_cases c15 : 0 ≤ (ji14)
           ·rw [if_pos c15] at H
            have c15b0 := decide_eq_true c15; clear c15
            by_cases c16 : (ji14) < (l0.length : Int)
            ·rw [if_pos c16] at H
             have c16b0 := decide_eq_true c16; clear c16; obtain ⟨t173, A170, H⟩ := Option.bind_eq_some_iff.mp H
             (try dsimp only at H)
             have A17 := ak A170; clear A170; have H' := ak H; clear H; (try go_wp2); have n0_ := ak (below_drew1 HB.out); clear HB; have HB := n0_; clear n0_; have p167 : 0 ≤ (x5_1 : Int) := dq; have q167 : x5_1 < (l0.length : Int) := dq; obtain ⟨ad167, e167, hx167_0, hx167_1⟩ := at_T49 HR0.out x5_1 p167 q167; have hw167_1 := hx167_1; have hw167_0 := hx167_0; obtain rfl : ad164 = ad167 := (by injection e167); replace hx167_0 := hb_ HB hx167_0; replace hx167_1 := hb_ HB hx167_1; replace p167 := eq_true p167; replace q167 := eq_true q167; have p169 : 0 ≤ (x5_1 : Int) := dq; have q169 : x5_1 < (l0.length : Int) := dq; obtain ⟨ad169, e169, hx169_0, hx169_1⟩ := at_T49 HR0.out x5_1 p169 q169; have hw169_1 := hx169_1; have hw169_0 := hx169_0; obtain rfl : ad164 = ad169 := (by injection e169); replace hx169_0 := hb_ HB hx169_0; replace hx169_1 := hb_ HB hx169_1; replace p169 := eq_true p169; replace q169 := eq_true q169; have p171 : 0 ≤ ((ji14) : Int) := dq; have q171 : (ji14) < (l0.length : Int) := dq; obtain ⟨ad171, e171, hx171_0, hx171_1⟩ := at_T49 HR0.out (ji14) p171 q171; have hw171_1 := hx171_1; have hw171_0 := hx171_0; obtain rfl : ad164 = ad171 := (by injection e171); replace hx171_0 := hb_ HB hx171_0; replace hx171_1 := hb_ HB hx171_1; replace p171 := eq_true p171; replace q171 := eq_true q171; have p172 : 0 ≤ (x5_1 : Int) := dq; have q172 : x5_1 < (l0.length : Int) := dq; obtain ⟨ad172, e172, hx172_0, hx172_1⟩ := at_T49 HR0.out x5_1 p172 q172; have hw172_1 := hx172_1; have hw172_0 := hx172_0; obtain rfl : ad164 = ad172 := (by injection e172); replace hx172_0 := hb_ HB hx172_0; replace hx172_1 := hb_ HB hx172_1; replace p172 := eq_true p172; replace q172 := eq_true q172; refine start_ (n := 33) (S := fun w' => w'.cell? (ad164.add ((x5_1).toNat * 2)) = some (.int .i64 ((rd_T49 l0 x5_1).f0)) ∧ w'.cell? ⟨(ad164.add ((x5_1).toNat * 2)).block, (ad164.add ((x5_1).toNat * 2)).off + 1, none⟩ = some (.int .i64 ((rd_T49 l0 x5_1).f1)) ∧ w'.cell? (ad164.add ((x5_1).toNat * 2)) = some (.int .i64 ((rd_T49 l0 x5_1).f0)) ∧ w'.cell? ⟨(ad164.add ((x5_1).toNat * 2)).block, (ad164.add ((x5_1).toNat * 2)).off + 1, none⟩ = some (.int .i64 ((rd_T49 l0 x5_1).f1)) ∧ w'.cell? (ad164.add (((ji14)).toNat * 2)) = some (.int .i64 ((rd_T49 l0 (ji14)).f0)) ∧ w'.cell? ⟨(ad164.add (((ji14)).toNat * 2)).block, (ad164.add (((ji14)).toNat * 2)).off + 1, none⟩ = some (.int .i64 ((rd_T49 l0 (ji14)).f1)) ∧ w'.cell? (ad164.add ((x5_1).toNat * 2)) = some (.int .i64 ((rd_T49 l0 x5_1).f0)) ∧ w'.cell? ⟨(ad164.add ((x5_1).toNat * 2)).block, (ad164.add ((x5_1).toNat * 2)).off + 1, none⟩ = some (.int .i64 ((rd_T49 l0 x5_1).f1))) (ds := []) #[Z,Z,Z,Z,Z,Z,Z,Z,Z,Z,Z,Z,Z,Z,Z,Z,Z,Z,Z,Z,Z,Z,Z,Z,Z,Z,Z,Z,Z,Z,Z,Z,Z] (by kernel_rfl) rfl rfl ⟨((hb_ HB hw167_0).trans rfl), ((hb_ HB hw167_1).trans rfl), ((hb_ HB hw169_0).trans rfl), ((hb_ HB hw169_1).trans rfl), ((hb_ HB hw171_0).trans rfl), ((hb_ HB hw171_1).trans rfl), ((hb_ HB hw172_0).trans rfl), ((hb_ HB hw172_1).trans rfl)⟩ (fun hHeld => ?_); refine with_tabW spec_l8Body.tab7 spec_l8Body.bits7 (fun HT_ HW_ => ?_)
             generalize wr.drew = w18 at HB hx167_0 hx167_1 hx169_0 hx169_1 hx171_0 hx171_1 hx172_0 hx172_1 hHeld ⊢
             refine pq_ (i := 0) (N := some 24) #[Y,Z,Z,Z,Z,Z,Z,Z,Z,Z,Z,Z,Z,Z,Z,Z,Z,Z,Z,Z,Z,Z,Z,Z,Z,Z,Z,Z,Z,Z,Z,Z,Z] HT_ ?_; refine pq_ (i := 1) (N := some 25) #[Y,Y,Z,Z,Z,Z,Z,Z,Z,Z,Z,Z,Z,Z,Z,Z,Z,Z,Z,Z,Z,Z,Z,Z,Z,Z,Z,Z,Z,Z,Z,Z,Z] HT_ ?_; refine pq_ (i := 2) (N := some 26) #[Y,Y,Y,Z,Z,Z,Z,Z,Z,Z,Z,Z,Z,Z,Z,Z,Z,Z,Z,Z,Z,Z,Z,Z,Z,Z,Z,Z,Z,Z,Z,Z,Z] HT_ ?_; refine pq_ (i := 3) (N := some 27) #[Y,Y,Y,Y,Z,Z,Z,Z,Z,Z,Z,Z,Z,Z,Z,Z,Z,Z,Z,Z,Z,Z,Z,Z,Z,Z,Z,Z,Z,Z,Z,Z,Z] HT_ ?_; refine tk_ (i := 4) (N := some 28) #[Y,Y,Y,Y,Y,Z,Z,Z,Z,Z,Z,Z,Z,Z,Z,Z,Z,Z,Z,Z,Z,Z,Z,Z,Z,Z,Z,Z,Z,Z,Z,Z,Z] HT_ HW_ hHeld ?_; refine one_ (i := 5) (N := some 29) #[Y,Y,Y,Y,Y,Y,Z,Z,Z,Z,Z,Z,Z,Z,Z,Z,Z,Z,Z,Z,Z,Z,Z,Z,Z,Z,Z,Z,Z,Z,Z,Z,Z] rfl rfl (one_of HT_.out (by kernel_rfl)) (by decide) (fun K hK => ?_); refine goes_ Try.func60 (by kernel_rfl) rfl #[.int .i64 ((rd_T49 l0 x5_1).f0), .int .i64 0, .int .i64 12] (by rfl) rfl rfl aq ?_
             with_reducible refine (spec_l1In.calls ((rd_T49 l0 x5_1).f0) 0 12 true _ A9.out).mono ?_
             rintro e w' ⟨rfl, ⟨nd, rfl⟩⟩
             refine ⟨_, rfl, ?_⟩; refine hK.out _ _ ⟨((hb_ HB hw167_0).trans rfl), ((hb_ HB hw167_1).trans rfl), ((hb_ HB hw169_0).trans rfl), ((hb_ HB hw169_1).trans rfl), ((hb_ HB hw171_0).trans rfl), ((hb_ HB hw171_1).trans rfl), ((hb_ HB hw172_0).trans rfl), ((hb_ HB hw172_1).trans rfl)⟩ (fun hHeld => ?_); clear hK K; refine norm_ (a' := ?_) ?_ ?_; rotate_left
             ·show Act.put _ (some 29) _ = _
              simp only [Act.put, sA, sZ, sS, i64_w, i32_w]
              rfl
             refine pq_ (i := 6) (N := some 30) #[Y,Y,Y,Y,Y,Y,Y,Z,Z,Z,Z,Z,Z,Z,Z,Z,Z,Z,Z,Z,Z,Z,Z,Z,Z,Z,Z,Z,Z,Z,Z,Z,Z] HT_ ?_; refine pq_ (i := 7) (N := some 31) #[Y,Y,Y,Y,Y,Y,Y,Y,Z,Z,Z,Z,Z,Z,Z,Z,Z,Z,Z,Z,Z,Z,Z,Z,Z,Z,Z,Z,Z,Z,Z,Z,Z] HT_ ?_; refine pq_ (i := 8) (N := some 32) #[Y,Y,Y,Y,Y,Y,Y,Y,Y,Z,Z,Z,Z,Z,Z,Z,Z,Z,Z,Z,Z,Z,Z,Z,Z,Z,Z,Z,Z,Z,Z,Z,Z] HT_ ?_; refine pq_ (i := 9) (N := some 33) #[Y,Y,Y,Y,Y,Y,Y,Y,Y,Y,Z,Z,Z,Z,Z,Z,Z,Z,Z,Z,Z,Z,Z,Z,Z,Z,Z,Z,Z,Z,Z,Z,Z] HT_ ?_; refine pq_ (i := 10) (N := some 34) #[Y,Y,Y,Y,Y,Y,Y,Y,Y,Y,Y,Z,Z,Z,Z,Z,Z,Z,Z,Z,Z,Z,Z,Z,Z,Z,Z,Z,Z,Z,Z,Z,Z] HT_ ?_; refine pq_ (i := 11) (N := some 35) #[Y,Y,Y,Y,Y,Y,Y,Y,Y,Y,Y,Y,Z,Z,Z,Z,Z,Z,Z,Z,Z,Z,Z,Z,Z,Z,Z,Z,Z,Z,Z,Z,Z] HT_ ?_; refine tk_ (i := 12) (N := some 36) #[Y,Y,Y,Y,Y,Y,Y,Y,Y,Y,Y,Y,Y,Z,Z,Z,Z,Z,Z,Z,Z,Z,Z,Z,Z,Z,Z,Z,Z,Z,Z,Z,Z] HT_ HW_ hHeld ?_; refine one_ (i := 13) (N := some 37) #[Y,Y,Y,Y,Y,Y,Y,Y,Y,Y,Y,Y,Y,Y,Z,Z,Z,Z,Z,Z,Z,Z,Z,Z,Z,Z,Z,Z,Z,Z,Z,Z,Z] rfl rfl (one_of HT_.out (by kernel_rfl)) (by decide) (fun K hK => ?_); refine goes_ Try.func60 (by kernel_rfl) rfl #[.int .i64 ((rd_T49 l0 x5_1).f1), .int .i64 0, .int .i64 12] (by rfl) rfl rfl aq ?_
             with_reducible refine (spec_l1In.calls ((rd_T49 l0 x5_1).f1) 0 12 true _ A11.out).mono ?_
             rintro e w' ⟨rfl, ⟨nd, rfl⟩⟩
             refine ⟨_, rfl, ?_⟩; refine hK.out _ _ ⟨((hb_ HB hw167_0).trans rfl), ((hb_ HB hw167_1).trans rfl), ((hb_ HB hw169_0).trans rfl), ((hb_ HB hw169_1).trans rfl), ((hb_ HB hw171_0).trans rfl), ((hb_ HB hw171_1).trans rfl), ((hb_ HB hw172_0).trans rfl), ((hb_ HB hw172_1).trans rfl)⟩ (fun hHeld => ?_); clear hK K; refine norm_ (a' := ?_) ?_ ?_; rotate_left
             ·show Act.put _ (some 37) _ = _
              simp only [Act.put, sA, sZ, sS, i64_w, i32_w]
              rfl
             refine pq_ (i := 14) (N := some 38) #[Y,Y,Y,Y,Y,Y,Y,Y,Y,Y,Y,Y,Y,Y,Y,Z,Z,Z,Z,Z,Z,Z,Z,Z,Z,Z,Z,Z,Z,Z,Z,Z,Z] HT_ ?_; refine pq_ (i := 15) (N := some 39) #[Y,Y,Y,Y,Y,Y,Y,Y,Y,Y,Y,Y,Y,Y,Y,Y,Z,Z,Z,Z,Z,Z,Z,Z,Z,Z,Z,Z,Z,Z,Z,Z,Z] HT_ ?_; refine pq_ (i := 16) (N := some 40) #[Y,Y,Y,Y,Y,Y,Y,Y,Y,Y,Y,Y,Y,Y,Y,Y,Y,Z,Z,Z,Z,Z,Z,Z,Z,Z,Z,Z,Z,Z,Z,Z,Z] HT_ ?_; refine pq_ (i := 17) (N := some 41) #[Y,Y,Y,Y,Y,Y,Y,Y,Y,Y,Y,Y,Y,Y,Y,Y,Y,Y,Z,Z,Z,Z,Z,Z,Z,Z,Z,Z,Z,Z,Z,Z,Z] HT_ ?_; refine pq_ (i := 18) (N := some 42) #[Y,Y,Y,Y,Y,Y,Y,Y,Y,Y,Y,Y,Y,Y,Y,Y,Y,Y,Y,Z,Z,Z,Z,Z,Z,Z,Z,Z,Z,Z,Z,Z,Z] HT_ ?_; refine pq_ (i := 19) (N := some 43) #[Y,Y,Y,Y,Y,Y,Y,Y,Y,Y,Y,Y,Y,Y,Y,Y,Y,Y,Y,Y,Z,Z,Z,Z,Z,Z,Z,Z,Z,Z,Z,Z,Z] HT_ ?_; refine pq_ (i := 20) (N := some 44) #[Y,Y,Y,Y,Y,Y,Y,Y,Y,Y,Y,Y,Y,Y,Y,Y,Y,Y,Y,Y,Y,Z,Z,Z,Z,Z,Z,Z,Z,Z,Z,Z,Z] HT_ ?_; refine pq_ (i := 21) (N := some 45) #[Y,Y,Y,Y,Y,Y,Y,Y,Y,Y,Y,Y,Y,Y,Y,Y,Y,Y,Y,Y,Y,Y,Z,Z,Z,Z,Z,Z,Z,Z,Z,Z,Z] HT_ ?_; refine pq_ (i := 22) (N := some 46) #[Y,Y,Y,Y,Y,Y,Y,Y,Y,Y,Y,Y,Y,Y,Y,Y,Y,Y,Y,Y,Y,Y,Y,Z,Z,Z,Z,Z,Z,Z,Z,Z,Z] HT_ ?_; refine pq_ (i := 23) (N := some 47) #[Y,Y,Y,Y,Y,Y,Y,Y,Y,Y,Y,Y,Y,Y,Y,Y,Y,Y,Y,Y,Y,Y,Y,Y,Z,Z,Z,Z,Z,Z,Z,Z,Z] HT_ ?_; refine pq_ (i := 25) (N := some 49) #[Y,Y,Y,Y,Y,Y,Y,Y,Y,Y,Y,Y,Y,Y,Y,Y,Y,Y,Y,Y,Y,Y,Y,Y,Z,Y,Z,Z,Z,Z,Z,Z,Z] HT_ ?_; refine pq_ (i := 26) (N := some 50) #[Y,Y,Y,Y,Y,Y,Y,Y,Y,Y,Y,Y,Y,Y,Y,Y,Y,Y,Y,Y,Y,Y,Y,Y,Z,Y,Y,Z,Z,Z,Z,Z,Z] HT_ ?_; refine pq_ (i := 27) (N := some 51) #[Y,Y,Y,Y,Y,Y,Y,Y,Y,Y,Y,Y,Y,Y,Y,Y,Y,Y,Y,Y,Y,Y,Y,Y,Z,Y,Y,Y,Z,Z,Z,Z,Z] HT_ ?_; refine tk_ (i := 24) (N := some 48) #[Y,Y,Y,Y,Y,Y,Y,Y,Y,Y,Y,Y,Y,Y,Y,Y,Y,Y,Y,Y,Y,Y,Y,Y,Y,Y,Y,Y,Z,Z,Z,Z,Z] HT_ HW_ hHeld ?_; refine tk_ (i := 28) (N := some 52) #[Y,Y,Y,Y,Y,Y,Y,Y,Y,Y,Y,Y,Y,Y,Y,Y,Y,Y,Y,Y,Y,Y,Y,Y,Y,Y,Y,Y,Y,Z,Z,Z,Z] HT_ HW_ hHeld ?_; refine one_ (i := 29) (N := some 53) #[Y,Y,Y,Y,Y,Y,Y,Y,Y,Y,Y,Y,Y,Y,Y,Y,Y,Y,Y,Y,Y,Y,Y,Y,Y,Y,Y,Y,Y,Y,Z,Z,Z] rfl rfl (one_of HT_.out (by kernel_rfl)) (by decide) (fun K hK => ?_); refine goes_ Try.func106 (by kernel_rfl) rfl #[.agg #[.int .i64 ((rd_T49 l0 (ji14)).f0), .int .i64 ((rd_T49 l0 (ji14)).f1)], .agg #[.int .i64 ((rd_T49 l0 x5_1).f0), .int .i64 ((rd_T49 l0 x5_1).f1)]] (by rfl) rfl rfl (by (try simp only [List.map_toArray, List.map_cons, List.map_nil]); first | done | (simp only [hji14]; rfl) | rfl | (simp only [List.length_drop, List.length_take]; rfl)) ?_
             with_reducible refine (spec_l8Before.calls ((rd_T49 l0 (ji14)).f0) ((rd_T49 l0 (ji14)).f1) ((rd_T49 l0 x5_1).f0) ((rd_T49 l0 x5_1).f1) t173 _ A17.out).mono ?_
             rintro e w19 ⟨rfl, hb⟩
             refine ⟨_, rfl, ?_⟩; have n0_ := ak (below_step bq hb); clear HB; have HB := n0_; clear n0_
             (try clear hb)
             (try clear hb2)
             (try clear hk)
             (try clear hi)
             refine hK.out _ _ ⟨((hb_ HB hw167_0).trans rfl), ((hb_ HB hw167_1).trans rfl), ((hb_ HB hw169_0).trans rfl), ((hb_ HB hw169_1).trans rfl), ((hb_ HB hw171_0).trans rfl), ((hb_ HB hw171_1).trans rfl), ((hb_ HB hw172_0).trans rfl), ((hb_ HB hw172_1).trans rfl)⟩ (fun hHeld => ?_); clear hK K; refine norm_ (a' := ?_) ?_ ?_; rotate_left
             ·show Act.put _ (some 53) _ = _
              simp only [Act.put, sA, sZ, sS, i64_w, i32_w]
              rfl
             refine pq_ (i := 30) (N := some 54) #[Y,Y,Y,Y,Y,Y,Y,Y,Y,Y,Y,Y,Y,Y,Y,Y,Y,Y,Y,Y,Y,Y,Y,Y,Y,Y,Y,Y,Y,Y,Y,Z,Z] HT_ ?_; refine pq_ (i := 31) (N := some 55) #[Y,Y,Y,Y,Y,Y,Y,Y,Y,Y,Y,Y,Y,Y,Y,Y,Y,Y,Y,Y,Y,Y,Y,Y,Y,Y,Y,Y,Y,Y,Y,Y,Z] HT_ ?_; refine pq_ (i := 32) (N := some 56) #[Y,Y,Y,Y,Y,Y,Y,Y,Y,Y,Y,Y,Y,Y,Y,Y,Y,Y,Y,Y,Y,Y,Y,Y,Y,Y,Y,Y,Y,Y,Y,Y,Y] HT_ ?_; refine done_ (done_of HT_.out (by kernel_rfl)) ?_; (try go_wp2)
             go_meet
             case rel => exact ⟨_, (!t173), sq, H', ⟨by have := HK1.out; first | omega | exact Nat.le_refl _⟩, ⟨bq⟩⟩
            ·rw [if_neg c16] at H
             exact absurd H (by simp)
           ·rw [if_neg c15] at H
            exact absurd H (by simp)
          ·rw [if_neg c13] at H
           have c13b0 : decide (0 < x5_1) = false := decide_eq_false c13; clear c13; have H' := ak H; clear H; (try go_wp2); have n0_ := ak (below_drew1 HB.out); clear HB; have HB := n0_; clear n0_; have p167 : 0 ≤ (x5_1 : Int) := dq; have q167 : x5_1 < (l0.length : Int) := dq; obtain ⟨ad167, e167, hx167_0, hx167_1⟩ := at_T49 HR0.out x5_1 p167 q167; have hw167_1 := hx167_1; have hw167_0 := hx167_0; obtain rfl : ad164 = ad167 := (by injection e167); replace hx167_0 := hb_ HB hx167_0; replace hx167_1 := hb_ HB hx167_1; replace p167 := eq_true p167; replace q167 := eq_true q167; have p169 : 0 ≤ (x5_1 : Int) := dq; have q169 : x5_1 < (l0.length : Int) := dq; obtain ⟨ad169, e169, hx169_0, hx169_1⟩ := at_T49 HR0.out x5_1 p169 q169; have hw169_1 := hx169_1; have hw169_0 := hx169_0; obtain rfl : ad164 = ad169 := (by injection e169); replace hx169_0 := hb_ HB hx169_0; replace hx169_1 := hb_ HB hx169_1; replace p169 := eq_true p169; replace q169 := eq_true q169; refine start_ (n := 33) (S := fun w' => w'.cell? (ad164.add ((x5_1).toNat * 2)) = some (.int .i64 ((rd_T49 l0 x5_1).f0)) ∧ w'.cell? ⟨(ad164.add ((x5_1).toNat * 2)).block, (ad164.add ((x5_1).toNat * 2)).off + 1, none⟩ = some (.int .i64 ((rd_T49 l0 x5_1).f1)) ∧ w'.cell? (ad164.add ((x5_1).toNat * 2)) = some (.int .i64 ((rd_T49 l0 x5_1).f0)) ∧ w'.cell? ⟨(ad164.add ((x5_1).toNat * 2)).block, (ad164.add ((x5_1).toNat * 2)).off + 1, none⟩ = some (.int .i64 ((rd_T49 l0 x5_1).f1))) (ds := []) #[Z,Z,Z,Z,Z,Z,Z,Z,Z,Z,Z,Z,Z,Z,Z,Z,Z,Z,Z,Z,Z,Z,Z,Z,Z,Z,Z,Z,Z,Z,Z,Z,Z] (by kernel_rfl) rfl rfl ⟨((hb_ HB hw167_0).trans rfl), ((hb_ HB hw167_1).trans rfl), ((hb_ HB hw169_0).trans rfl), ((hb_ HB hw169_1).trans rfl)⟩ (fun hHeld => ?_); refine with_tabW spec_l8Body.tab7 spec_l8Body.bits7 (fun HT_ HW_ => ?_)
           generalize wr.drew = w20 at HB hx167_0 hx167_1 hx169_0 hx169_1 hHeld ⊢
           refine pq_ (i := 0) (N := some 24) #[Y,Z,Z,Z,Z,Z,Z,Z,Z,Z,Z,Z,Z,Z,Z,Z,Z,Z,Z,Z,Z,Z,Z,Z,Z,Z,Z,Z,Z,Z,Z,Z,Z] HT_ ?_; refine pq_ (i := 1) (N := some 25) #[Y,Y,Z,Z,Z,Z,Z,Z,Z,Z,Z,Z,Z,Z,Z,Z,Z,Z,Z,Z,Z,Z,Z,Z,Z,Z,Z,Z,Z,Z,Z,Z,Z] HT_ ?_; refine pq_ (i := 2) (N := some 26) #[Y,Y,Y,Z,Z,Z,Z,Z,Z,Z,Z,Z,Z,Z,Z,Z,Z,Z,Z,Z,Z,Z,Z,Z,Z,Z,Z,Z,Z,Z,Z,Z,Z] HT_ ?_; refine pq_ (i := 3) (N := some 27) #[Y,Y,Y,Y,Z,Z,Z,Z,Z,Z,Z,Z,Z,Z,Z,Z,Z,Z,Z,Z,Z,Z,Z,Z,Z,Z,Z,Z,Z,Z,Z,Z,Z] HT_ ?_; refine tk_ (i := 4) (N := some 28) #[Y,Y,Y,Y,Y,Z,Z,Z,Z,Z,Z,Z,Z,Z,Z,Z,Z,Z,Z,Z,Z,Z,Z,Z,Z,Z,Z,Z,Z,Z,Z,Z,Z] HT_ HW_ hHeld ?_; refine one_ (i := 5) (N := some 29) #[Y,Y,Y,Y,Y,Y,Z,Z,Z,Z,Z,Z,Z,Z,Z,Z,Z,Z,Z,Z,Z,Z,Z,Z,Z,Z,Z,Z,Z,Z,Z,Z,Z] rfl rfl (one_of HT_.out (by kernel_rfl)) (by decide) (fun K hK => ?_); refine goes_ Try.func60 (by kernel_rfl) rfl #[.int .i64 ((rd_T49 l0 x5_1).f0), .int .i64 0, .int .i64 12] (by rfl) rfl rfl aq ?_
           with_reducible refine (spec_l1In.calls ((rd_T49 l0 x5_1).f0) 0 12 true _ A9.out).mono ?_
           rintro e w' ⟨rfl, ⟨nd, rfl⟩⟩
           refine ⟨_, rfl, ?_⟩; refine hK.out _ _ ⟨((hb_ HB hw167_0).trans rfl), ((hb_ HB hw167_1).trans rfl), ((hb_ HB hw169_0).trans rfl), ((hb_ HB hw169_1).trans rfl)⟩ (fun hHeld => ?_); clear hK K; refine norm_ (a' := ?_) ?_ ?_; rotate_left
           ·show Act.put _ (some 29) _ = _
            simp only [Act.put, sA, sZ, sS, i64_w, i32_w]
            rfl
           refine pq_ (i := 6) (N := some 30) #[Y,Y,Y,Y,Y,Y,Y,Z,Z,Z,Z,Z,Z,Z,Z,Z,Z,Z,Z,Z,Z,Z,Z,Z,Z,Z,Z,Z,Z,Z,Z,Z,Z] HT_ ?_; refine pq_ (i := 7) (N := some 31) #[Y,Y,Y,Y,Y,Y,Y,Y,Z,Z,Z,Z,Z,Z,Z,Z,Z,Z,Z,Z,Z,Z,Z,Z,Z,Z,Z,Z,Z,Z,Z,Z,Z] HT_ ?_; refine pq_ (i := 8) (N := some 32) #[Y,Y,Y,Y,Y,Y,Y,Y,Y,Z,Z,Z,Z,Z,Z,Z,Z,Z,Z,Z,Z,Z,Z,Z,Z,Z,Z,Z,Z,Z,Z,Z,Z] HT_ ?_; refine pq_ (i := 9) (N := some 33) #[Y,Y,Y,Y,Y,Y,Y,Y,Y,Y,Z,Z,Z,Z,Z,Z,Z,Z,Z,Z,Z,Z,Z,Z,Z,Z,Z,Z,Z,Z,Z,Z,Z] HT_ ?_; refine pq_ (i := 10) (N := some 34) #[Y,Y,Y,Y,Y,Y,Y,Y,Y,Y,Y,Z,Z,Z,Z,Z,Z,Z,Z,Z,Z,Z,Z,Z,Z,Z,Z,Z,Z,Z,Z,Z,Z] HT_ ?_; refine pq_ (i := 11) (N := some 35) #[Y,Y,Y,Y,Y,Y,Y,Y,Y,Y,Y,Y,Z,Z,Z,Z,Z,Z,Z,Z,Z,Z,Z,Z,Z,Z,Z,Z,Z,Z,Z,Z,Z] HT_ ?_; refine tk_ (i := 12) (N := some 36) #[Y,Y,Y,Y,Y,Y,Y,Y,Y,Y,Y,Y,Y,Z,Z,Z,Z,Z,Z,Z,Z,Z,Z,Z,Z,Z,Z,Z,Z,Z,Z,Z,Z] HT_ HW_ hHeld ?_; refine one_ (i := 13) (N := some 37) #[Y,Y,Y,Y,Y,Y,Y,Y,Y,Y,Y,Y,Y,Y,Z,Z,Z,Z,Z,Z,Z,Z,Z,Z,Z,Z,Z,Z,Z,Z,Z,Z,Z] rfl rfl (one_of HT_.out (by kernel_rfl)) (by decide) (fun K hK => ?_); refine goes_ Try.func60 (by kernel_rfl) rfl #[.int .i64 ((rd_T49 l0 x5_1).f1), .int .i64 0, .int .i64 12] (by rfl) rfl rfl aq ?_
           with_reducible refine (spec_l1In.calls ((rd_T49 l0 x5_1).f1) 0 12 true _ A11.out).mono ?_
           rintro e w' ⟨rfl, ⟨nd, rfl⟩⟩
           refine ⟨_, rfl, ?_⟩; refine hK.out _ _ ⟨((hb_ HB hw167_0).trans rfl), ((hb_ HB hw167_1).trans rfl), ((hb_ HB hw169_0).trans rfl), ((hb_ HB hw169_1).trans rfl)⟩ (fun hHeld => ?_); clear hK K; refine norm_ (a' := ?_) ?_ ?_; rotate_left
           ·show Act.put _ (some 37) _ = _
            simp only [Act.put, sA, sZ, sS, i64_w, i32_w]
            rfl
           refine pq_ (i := 14) (N := some 38) #[Y,Y,Y,Y,Y,Y,Y,Y,Y,Y,Y,Y,Y,Y,Y,Z,Z,Z,Z,Z,Z,Z,Z,Z,Z,Z,Z,Z,Z,Z,Z,Z,Z] HT_ ?_; refine pq_ (i := 15) (N := some 39) #[Y,Y,Y,Y,Y,Y,Y,Y,Y,Y,Y,Y,Y,Y,Y,Y,Z,Z,Z,Z,Z,Z,Z,Z,Z,Z,Z,Z,Z,Z,Z,Z,Z] HT_ ?_; refine pq_ (i := 16) (N := some 40) #[Y,Y,Y,Y,Y,Y,Y,Y,Y,Y,Y,Y,Y,Y,Y,Y,Y,Z,Z,Z,Z,Z,Z,Z,Z,Z,Z,Z,Z,Z,Z,Z,Z] HT_ ?_; refine pq_ (i := 17) (N := some 41) #[Y,Y,Y,Y,Y,Y,Y,Y,Y,Y,Y,Y,Y,Y,Y,Y,Y,Y,Z,Z,Z,Z,Z,Z,Z,Z,Z,Z,Z,Z,Z,Z,Z] HT_ ?_; refine pq_ (i := 18) (N := some 42) #[Y,Y,Y,Y,Y,Y,Y,Y,Y,Y,Y,Y,Y,Y,Y,Y,Y,Y,Y,Z,Z,Z,Z,Z,Z,Z,Z,Z,Z,Z,Z,Z,Z] HT_ ?_; refine pq_ (i := 19) (N := some 43) #[Y,Y,Y,Y,Y,Y,Y,Y,Y,Y,Y,Y,Y,Y,Y,Y,Y,Y,Y,Y,Z,Z,Z,Z,Z,Z,Z,Z,Z,Z,Z,Z,Z] HT_ ?_; refine pz_ (i := 20) (N := some 44) (v := undef) #[Y,Y,Y,Y,Y,Y,Y,Y,Y,Y,Y,Y,Y,Y,Y,Y,Y,Y,Y,Y,Y,Z,Z,Z,Z,Z,Z,Z,Z,Z,Z,Z,Z] HT_ ?_; refine pz_ (i := 21) (N := some 45) (v := undef) #[Y,Y,Y,Y,Y,Y,Y,Y,Y,Y,Y,Y,Y,Y,Y,Y,Y,Y,Y,Y,Y,Y,Z,Z,Z,Z,Z,Z,Z,Z,Z,Z,Z] HT_ ?_; refine pz_ (i := 22) (N := some 46) (v := undef) #[Y,Y,Y,Y,Y,Y,Y,Y,Y,Y,Y,Y,Y,Y,Y,Y,Y,Y,Y,Y,Y,Y,Y,Z,Z,Z,Z,Z,Z,Z,Z,Z,Z] HT_ ?_; refine pz_ (i := 23) (N := some 47) (v := undef) #[Y,Y,Y,Y,Y,Y,Y,Y,Y,Y,Y,Y,Y,Y,Y,Y,Y,Y,Y,Y,Y,Y,Y,Y,Z,Z,Z,Z,Z,Z,Z,Z,Z] HT_ ?_; refine pz_ (i := 24) (N := some 48) (v := undef) #[Y,Y,Y,Y,Y,Y,Y,Y,Y,Y,Y,Y,Y,Y,Y,Y,Y,Y,Y,Y,Y,Y,Y,Y,Y,Z,Z,Z,Z,Z,Z,Z,Z] HT_ ?_; refine pz_ (i := 25) (N := some 49) (v := undef) #[Y,Y,Y,Y,Y,Y,Y,Y,Y,Y,Y,Y,Y,Y,Y,Y,Y,Y,Y,Y,Y,Y,Y,Y,Y,Y,Z,Z,Z,Z,Z,Z,Z] HT_ ?_; refine pz_ (i := 26) (N := some 50) (v := undef) #[Y,Y,Y,Y,Y,Y,Y,Y,Y,Y,Y,Y,Y,Y,Y,Y,Y,Y,Y,Y,Y,Y,Y,Y,Y,Y,Y,Z,Z,Z,Z,Z,Z] HT_ ?_; refine pz_ (i := 27) (N := some 51) (v := undef) #[Y,Y,Y,Y,Y,Y,Y,Y,Y,Y,Y,Y,Y,Y,Y,Y,Y,Y,Y,Y,Y,Y,Y,Y,Y,Y,Y,Y,Z,Z,Z,Z,Z] HT_ ?_; refine pz_ (i := 28) (N := some 52) (v := undef) #[Y,Y,Y,Y,Y,Y,Y,Y,Y,Y,Y,Y,Y,Y,Y,Y,Y,Y,Y,Y,Y,Y,Y,Y,Y,Y,Y,Y,Y,Z,Z,Z,Z] HT_ ?_; refine pz_ (i := 29) (N := some 53) (v := undef) #[Y,Y,Y,Y,Y,Y,Y,Y,Y,Y,Y,Y,Y,Y,Y,Y,Y,Y,Y,Y,Y,Y,Y,Y,Y,Y,Y,Y,Y,Y,Z,Z,Z] HT_ ?_; refine pz_ (i := 30) (N := some 54) (v := undef) #[Y,Y,Y,Y,Y,Y,Y,Y,Y,Y,Y,Y,Y,Y,Y,Y,Y,Y,Y,Y,Y,Y,Y,Y,Y,Y,Y,Y,Y,Y,Y,Z,Z] HT_ ?_; refine pq_ (i := 31) (N := some 55) #[Y,Y,Y,Y,Y,Y,Y,Y,Y,Y,Y,Y,Y,Y,Y,Y,Y,Y,Y,Y,Y,Y,Y,Y,Y,Y,Y,Y,Y,Y,Y,Y,Z] HT_ ?_; refine pq_ (i := 32) (N := some 56) #[Y,Y,Y,Y,Y,Y,Y,Y,Y,Y,Y,Y,Y,Y,Y,Y,Y,Y,Y,Y,Y,Y,Y,Y,Y,Y,Y,Y,Y,Y,Y,Y,Y] HT_ ?_; refine done_ (done_of HT_.out (by kernel_rfl)) ?_; (try go_wp2)
           go_meet
           case rel => exact ⟨_, (false), sq, H', ⟨by have := HK1.out; first | omega | exact Nat.le_refl _⟩, ⟨bq⟩⟩
         ·replace c12 := Bool.eq_false_iff.mpr c12
          subst c12; rw [if_neg (show ¬ (false = true) by decide)] at H; have H' := ak H; clear H; (try go_wp2); have n0_ := ak (below_drew1 HB.out); clear HB; have HB := n0_; clear n0_; have p167 : 0 ≤ (x5_1 : Int) := dq; have q167 : x5_1 < (l0.length : Int) := dq; obtain ⟨ad167, e167, hx167_0, hx167_1⟩ := at_T49 HR0.out x5_1 p167 q167; have hw167_1 := hx167_1; have hw167_0 := hx167_0; obtain rfl : ad164 = ad167 := (by injection e167); replace hx167_0 := hb_ HB hx167_0; replace hx167_1 := hb_ HB hx167_1; replace p167 := eq_true p167; replace q167 := eq_true q167; have p169 : 0 ≤ (x5_1 : Int) := dq; have q169 : x5_1 < (l0.length : Int) := dq; obtain ⟨ad169, e169, hx169_0, hx169_1⟩ := at_T49 HR0.out x5_1 p169 q169; have hw169_1 := hx169_1; have hw169_0 := hx169_0; obtain rfl : ad164 = ad169 := (by injection e169); replace hx169_0 := hb_ HB hx169_0; replace hx169_1 := hb_ HB hx169_1; replace p169 := eq_true p169; replace q169 := eq_true q169; refine start_ (n := 33) (S := fun w' => w'.cell? (ad164.add ((x5_1).toNat * 2)) = some (.int .i64 ((rd_T49 l0 x5_1).f0)) ∧ w'.cell? ⟨(ad164.add ((x5_1).toNat * 2)).block, (ad164.add ((x5_1).toNat * 2)).off + 1, none⟩ = some (.int .i64 ((rd_T49 l0 x5_1).f1)) ∧ w'.cell? (ad164.add ((x5_1).toNat * 2)) = some (.int .i64 ((rd_T49 l0 x5_1).f0)) ∧ w'.cell? ⟨(ad164.add ((x5_1).toNat * 2)).block, (ad164.add ((x5_1).toNat * 2)).off + 1, none⟩ = some (.int .i64 ((rd_T49 l0 x5_1).f1))) (ds := []) #[Z,Z,Z,Z,Z,Z,Z,Z,Z,Z,Z,Z,Z,Z,Z,Z,Z,Z,Z,Z,Z,Z,Z,Z,Z,Z,Z,Z,Z,Z,Z,Z,Z] (by kernel_rfl) rfl rfl ⟨((hb_ HB hw167_0).trans rfl), ((hb_ HB hw167_1).trans rfl), ((hb_ HB hw169_0).trans rfl), ((hb_ HB hw169_1).trans rfl)⟩ (fun hHeld => ?_); refine with_tabW spec_l8Body.tab7 spec_l8Body.bits7 (fun HT_ HW_ => ?_)
          generalize wr.drew = w21 at HB hx167_0 hx167_1 hx169_0 hx169_1 hHeld ⊢
          refine pq_ (i := 0) (N := some 24) #[Y,Z,Z,Z,Z,Z,Z,Z,Z,Z,Z,Z,Z,Z,Z,Z,Z,Z,Z,Z,Z,Z,Z,Z,Z,Z,Z,Z,Z,Z,Z,Z,Z] HT_ ?_; refine pq_ (i := 1) (N := some 25) #[Y,Y,Z,Z,Z,Z,Z,Z,Z,Z,Z,Z,Z,Z,Z,Z,Z,Z,Z,Z,Z,Z,Z,Z,Z,Z,Z,Z,Z,Z,Z,Z,Z] HT_ ?_; refine pq_ (i := 2) (N := some 26) #[Y,Y,Y,Z,Z,Z,Z,Z,Z,Z,Z,Z,Z,Z,Z,Z,Z,Z,Z,Z,Z,Z,Z,Z,Z,Z,Z,Z,Z,Z,Z,Z,Z] HT_ ?_; refine pq_ (i := 3) (N := some 27) #[Y,Y,Y,Y,Z,Z,Z,Z,Z,Z,Z,Z,Z,Z,Z,Z,Z,Z,Z,Z,Z,Z,Z,Z,Z,Z,Z,Z,Z,Z,Z,Z,Z] HT_ ?_; refine tk_ (i := 4) (N := some 28) #[Y,Y,Y,Y,Y,Z,Z,Z,Z,Z,Z,Z,Z,Z,Z,Z,Z,Z,Z,Z,Z,Z,Z,Z,Z,Z,Z,Z,Z,Z,Z,Z,Z] HT_ HW_ hHeld ?_; refine one_ (i := 5) (N := some 29) #[Y,Y,Y,Y,Y,Y,Z,Z,Z,Z,Z,Z,Z,Z,Z,Z,Z,Z,Z,Z,Z,Z,Z,Z,Z,Z,Z,Z,Z,Z,Z,Z,Z] rfl rfl (one_of HT_.out (by kernel_rfl)) (by decide) (fun K hK => ?_); refine goes_ Try.func60 (by kernel_rfl) rfl #[.int .i64 ((rd_T49 l0 x5_1).f0), .int .i64 0, .int .i64 12] (by rfl) rfl rfl aq ?_
          with_reducible refine (spec_l1In.calls ((rd_T49 l0 x5_1).f0) 0 12 true _ A9.out).mono ?_
          rintro e w' ⟨rfl, ⟨nd, rfl⟩⟩
          refine ⟨_, rfl, ?_⟩; refine hK.out _ _ ⟨((hb_ HB hw167_0).trans rfl), ((hb_ HB hw167_1).trans rfl), ((hb_ HB hw169_0).trans rfl), ((hb_ HB hw169_1).trans rfl)⟩ (fun hHeld => ?_); clear hK K; refine norm_ (a' := ?_) ?_ ?_; rotate_left
          ·show Act.put _ (some 29) _ = _
           simp only [Act.put, sA, sZ, sS, i64_w, i32_w]
           rfl
          refine pq_ (i := 6) (N := some 30) #[Y,Y,Y,Y,Y,Y,Y,Z,Z,Z,Z,Z,Z,Z,Z,Z,Z,Z,Z,Z,Z,Z,Z,Z,Z,Z,Z,Z,Z,Z,Z,Z,Z] HT_ ?_; refine pq_ (i := 7) (N := some 31) #[Y,Y,Y,Y,Y,Y,Y,Y,Z,Z,Z,Z,Z,Z,Z,Z,Z,Z,Z,Z,Z,Z,Z,Z,Z,Z,Z,Z,Z,Z,Z,Z,Z] HT_ ?_; refine pq_ (i := 8) (N := some 32) #[Y,Y,Y,Y,Y,Y,Y,Y,Y,Z,Z,Z,Z,Z,Z,Z,Z,Z,Z,Z,Z,Z,Z,Z,Z,Z,Z,Z,Z,Z,Z,Z,Z] HT_ ?_; refine pq_ (i := 9) (N := some 33) #[Y,Y,Y,Y,Y,Y,Y,Y,Y,Y,Z,Z,Z,Z,Z,Z,Z,Z,Z,Z,Z,Z,Z,Z,Z,Z,Z,Z,Z,Z,Z,Z,Z] HT_ ?_; refine pq_ (i := 10) (N := some 34) #[Y,Y,Y,Y,Y,Y,Y,Y,Y,Y,Y,Z,Z,Z,Z,Z,Z,Z,Z,Z,Z,Z,Z,Z,Z,Z,Z,Z,Z,Z,Z,Z,Z] HT_ ?_; refine pq_ (i := 11) (N := some 35) #[Y,Y,Y,Y,Y,Y,Y,Y,Y,Y,Y,Y,Z,Z,Z,Z,Z,Z,Z,Z,Z,Z,Z,Z,Z,Z,Z,Z,Z,Z,Z,Z,Z] HT_ ?_; refine tk_ (i := 12) (N := some 36) #[Y,Y,Y,Y,Y,Y,Y,Y,Y,Y,Y,Y,Y,Z,Z,Z,Z,Z,Z,Z,Z,Z,Z,Z,Z,Z,Z,Z,Z,Z,Z,Z,Z] HT_ HW_ hHeld ?_; refine one_ (i := 13) (N := some 37) #[Y,Y,Y,Y,Y,Y,Y,Y,Y,Y,Y,Y,Y,Y,Z,Z,Z,Z,Z,Z,Z,Z,Z,Z,Z,Z,Z,Z,Z,Z,Z,Z,Z] rfl rfl (one_of HT_.out (by kernel_rfl)) (by decide) (fun K hK => ?_); refine goes_ Try.func60 (by kernel_rfl) rfl #[.int .i64 ((rd_T49 l0 x5_1).f1), .int .i64 0, .int .i64 12] (by rfl) rfl rfl aq ?_
          with_reducible refine (spec_l1In.calls ((rd_T49 l0 x5_1).f1) 0 12 false _ A11.out).mono ?_
          rintro e w' ⟨rfl, ⟨nd, rfl⟩⟩
          refine ⟨_, rfl, ?_⟩; refine hK.out _ _ ⟨((hb_ HB hw167_0).trans rfl), ((hb_ HB hw167_1).trans rfl), ((hb_ HB hw169_0).trans rfl), ((hb_ HB hw169_1).trans rfl)⟩ (fun hHeld => ?_); clear hK K; refine norm_ (a' := ?_) ?_ ?_; rotate_left
          ·show Act.put _ (some 37) _ = _
           simp only [Act.put, sA, sZ, sS, i64_w, i32_w]
           rfl
          refine pq_ (i := 14) (N := some 38) #[Y,Y,Y,Y,Y,Y,Y,Y,Y,Y,Y,Y,Y,Y,Y,Z,Z,Z,Z,Z,Z,Z,Z,Z,Z,Z,Z,Z,Z,Z,Z,Z,Z] HT_ ?_; refine pq_ (i := 15) (N := some 39) #[Y,Y,Y,Y,Y,Y,Y,Y,Y,Y,Y,Y,Y,Y,Y,Y,Z,Z,Z,Z,Z,Z,Z,Z,Z,Z,Z,Z,Z,Z,Z,Z,Z] HT_ ?_; refine pq_ (i := 16) (N := some 40) #[Y,Y,Y,Y,Y,Y,Y,Y,Y,Y,Y,Y,Y,Y,Y,Y,Y,Z,Z,Z,Z,Z,Z,Z,Z,Z,Z,Z,Z,Z,Z,Z,Z] HT_ ?_; refine pz_ (i := 17) (N := some 41) (v := undef) #[Y,Y,Y,Y,Y,Y,Y,Y,Y,Y,Y,Y,Y,Y,Y,Y,Y,Y,Z,Z,Z,Z,Z,Z,Z,Z,Z,Z,Z,Z,Z,Z,Z] HT_ ?_; refine pz_ (i := 18) (N := some 42) (v := undef) #[Y,Y,Y,Y,Y,Y,Y,Y,Y,Y,Y,Y,Y,Y,Y,Y,Y,Y,Y,Z,Z,Z,Z,Z,Z,Z,Z,Z,Z,Z,Z,Z,Z] HT_ ?_; refine pz_ (i := 19) (N := some 43) (v := undef) #[Y,Y,Y,Y,Y,Y,Y,Y,Y,Y,Y,Y,Y,Y,Y,Y,Y,Y,Y,Y,Z,Z,Z,Z,Z,Z,Z,Z,Z,Z,Z,Z,Z] HT_ ?_; refine pz_ (i := 20) (N := some 44) (v := undef) #[Y,Y,Y,Y,Y,Y,Y,Y,Y,Y,Y,Y,Y,Y,Y,Y,Y,Y,Y,Y,Y,Z,Z,Z,Z,Z,Z,Z,Z,Z,Z,Z,Z] HT_ ?_; refine pz_ (i := 21) (N := some 45) (v := undef) #[Y,Y,Y,Y,Y,Y,Y,Y,Y,Y,Y,Y,Y,Y,Y,Y,Y,Y,Y,Y,Y,Y,Z,Z,Z,Z,Z,Z,Z,Z,Z,Z,Z] HT_ ?_; refine pz_ (i := 22) (N := some 46) (v := undef) #[Y,Y,Y,Y,Y,Y,Y,Y,Y,Y,Y,Y,Y,Y,Y,Y,Y,Y,Y,Y,Y,Y,Y,Z,Z,Z,Z,Z,Z,Z,Z,Z,Z] HT_ ?_; refine pz_ (i := 23) (N := some 47) (v := undef) #[Y,Y,Y,Y,Y,Y,Y,Y,Y,Y,Y,Y,Y,Y,Y,Y,Y,Y,Y,Y,Y,Y,Y,Y,Z,Z,Z,Z,Z,Z,Z,Z,Z] HT_ ?_; refine pz_ (i := 24) (N := some 48) (v := undef) #[Y,Y,Y,Y,Y,Y,Y,Y,Y,Y,Y,Y,Y,Y,Y,Y,Y,Y,Y,Y,Y,Y,Y,Y,Y,Z,Z,Z,Z,Z,Z,Z,Z] HT_ ?_; refine pz_ (i := 25) (N := some 49) (v := undef) #[Y,Y,Y,Y,Y,Y,Y,Y,Y,Y,Y,Y,Y,Y,Y,Y,Y,Y,Y,Y,Y,Y,Y,Y,Y,Y,Z,Z,Z,Z,Z,Z,Z] HT_ ?_; refine pz_ (i := 26) (N := some 50) (v := undef) #[Y,Y,Y,Y,Y,Y,Y,Y,Y,Y,Y,Y,Y,Y,Y,Y,Y,Y,Y,Y,Y,Y,Y,Y,Y,Y,Y,Z,Z,Z,Z,Z,Z] HT_ ?_; refine pz_ (i := 27) (N := some 51) (v := undef) #[Y,Y,Y,Y,Y,Y,Y,Y,Y,Y,Y,Y,Y,Y,Y,Y,Y,Y,Y,Y,Y,Y,Y,Y,Y,Y,Y,Y,Z,Z,Z,Z,Z] HT_ ?_; refine pz_ (i := 28) (N := some 52) (v := undef) #[Y,Y,Y,Y,Y,Y,Y,Y,Y,Y,Y,Y,Y,Y,Y,Y,Y,Y,Y,Y,Y,Y,Y,Y,Y,Y,Y,Y,Y,Z,Z,Z,Z] HT_ ?_; refine pz_ (i := 29) (N := some 53) (v := undef) #[Y,Y,Y,Y,Y,Y,Y,Y,Y,Y,Y,Y,Y,Y,Y,Y,Y,Y,Y,Y,Y,Y,Y,Y,Y,Y,Y,Y,Y,Y,Z,Z,Z] HT_ ?_; refine pz_ (i := 30) (N := some 54) (v := undef) #[Y,Y,Y,Y,Y,Y,Y,Y,Y,Y,Y,Y,Y,Y,Y,Y,Y,Y,Y,Y,Y,Y,Y,Y,Y,Y,Y,Y,Y,Y,Y,Z,Z] HT_ ?_; refine pz_ (i := 31) (N := some 55) (v := undef) #[Y,Y,Y,Y,Y,Y,Y,Y,Y,Y,Y,Y,Y,Y,Y,Y,Y,Y,Y,Y,Y,Y,Y,Y,Y,Y,Y,Y,Y,Y,Y,Y,Z] HT_ ?_; refine pq_ (i := 32) (N := some 56) #[Y,Y,Y,Y,Y,Y,Y,Y,Y,Y,Y,Y,Y,Y,Y,Y,Y,Y,Y,Y,Y,Y,Y,Y,Y,Y,Y,Y,Y,Y,Y,Y,Y] HT_ ?_; refine done_ (done_of HT_.out (by kernel_rfl)) ?_; (try go_wp2)
          go_meet
          case rel => exact ⟨_, (true), sq, H', ⟨by have := HK1.out; first | omega | exact Nat.le_refl _⟩, ⟨bq⟩⟩
        ·replace c10 := Bool.eq_false_iff.mpr c10
         subst c10; rw [if_neg (show ¬ (false = true) by decide)] at H; have H' := ak H; clear H; (try go_wp2); have n0_ := ak (below_drew1 HB.out); clear HB; have HB := n0_; clear n0_; have p167 : 0 ≤ (x5_1 : Int) := dq; have q167 : x5_1 < (l0.length : Int) := dq; obtain ⟨ad167, e167, hx167_0, hx167_1⟩ := at_T49 HR0.out x5_1 p167 q167; have hw167_1 := hx167_1; have hw167_0 := hx167_0; obtain rfl : ad164 = ad167 := (by injection e167); replace hx167_0 := hb_ HB hx167_0; replace hx167_1 := hb_ HB hx167_1; replace p167 := eq_true p167; replace q167 := eq_true q167; refine start_ (n := 33) (S := fun w' => w'.cell? (ad164.add ((x5_1).toNat * 2)) = some (.int .i64 ((rd_T49 l0 x5_1).f0)) ∧ w'.cell? ⟨(ad164.add ((x5_1).toNat * 2)).block, (ad164.add ((x5_1).toNat * 2)).off + 1, none⟩ = some (.int .i64 ((rd_T49 l0 x5_1).f1))) (ds := []) #[Z,Z,Z,Z,Z,Z,Z,Z,Z,Z,Z,Z,Z,Z,Z,Z,Z,Z,Z,Z,Z,Z,Z,Z,Z,Z,Z,Z,Z,Z,Z,Z,Z] (by kernel_rfl) rfl rfl ⟨((hb_ HB hw167_0).trans rfl), ((hb_ HB hw167_1).trans rfl)⟩ (fun hHeld => ?_); refine with_tabW spec_l8Body.tab7 spec_l8Body.bits7 (fun HT_ HW_ => ?_)
         generalize wr.drew = w22 at HB hx167_0 hx167_1 hHeld ⊢
         refine pq_ (i := 0) (N := some 24) #[Y,Z,Z,Z,Z,Z,Z,Z,Z,Z,Z,Z,Z,Z,Z,Z,Z,Z,Z,Z,Z,Z,Z,Z,Z,Z,Z,Z,Z,Z,Z,Z,Z] HT_ ?_; refine pq_ (i := 1) (N := some 25) #[Y,Y,Z,Z,Z,Z,Z,Z,Z,Z,Z,Z,Z,Z,Z,Z,Z,Z,Z,Z,Z,Z,Z,Z,Z,Z,Z,Z,Z,Z,Z,Z,Z] HT_ ?_; refine pq_ (i := 2) (N := some 26) #[Y,Y,Y,Z,Z,Z,Z,Z,Z,Z,Z,Z,Z,Z,Z,Z,Z,Z,Z,Z,Z,Z,Z,Z,Z,Z,Z,Z,Z,Z,Z,Z,Z] HT_ ?_; refine pq_ (i := 3) (N := some 27) #[Y,Y,Y,Y,Z,Z,Z,Z,Z,Z,Z,Z,Z,Z,Z,Z,Z,Z,Z,Z,Z,Z,Z,Z,Z,Z,Z,Z,Z,Z,Z,Z,Z] HT_ ?_; refine tk_ (i := 4) (N := some 28) #[Y,Y,Y,Y,Y,Z,Z,Z,Z,Z,Z,Z,Z,Z,Z,Z,Z,Z,Z,Z,Z,Z,Z,Z,Z,Z,Z,Z,Z,Z,Z,Z,Z] HT_ HW_ hHeld ?_; refine one_ (i := 5) (N := some 29) #[Y,Y,Y,Y,Y,Y,Z,Z,Z,Z,Z,Z,Z,Z,Z,Z,Z,Z,Z,Z,Z,Z,Z,Z,Z,Z,Z,Z,Z,Z,Z,Z,Z] rfl rfl (one_of HT_.out (by kernel_rfl)) (by decide) (fun K hK => ?_); refine goes_ Try.func60 (by kernel_rfl) rfl #[.int .i64 ((rd_T49 l0 x5_1).f0), .int .i64 0, .int .i64 12] (by rfl) rfl rfl aq ?_
         with_reducible refine (spec_l1In.calls ((rd_T49 l0 x5_1).f0) 0 12 false _ A9.out).mono ?_
         rintro e w' ⟨rfl, ⟨nd, rfl⟩⟩
         refine ⟨_, rfl, ?_⟩; refine hK.out _ _ ⟨((hb_ HB hw167_0).trans rfl), ((hb_ HB hw167_1).trans rfl)⟩ (fun hHeld => ?_); clear hK K; refine norm_ (a' := ?_) ?_ ?_; rotate_left
         ·show Act.put _ (some 29) _ = _
          simp only [Act.put, sA, sZ, sS, i64_w, i32_w]
          rfl
         refine pq_ (i := 6) (N := some 30) #[Y,Y,Y,Y,Y,Y,Y,Z,Z,Z,Z,Z,Z,Z,Z,Z,Z,Z,Z,Z,Z,Z,Z,Z,Z,Z,Z,Z,Z,Z,Z,Z,Z] HT_ ?_; refine pq_ (i := 7) (N := some 31) #[Y,Y,Y,Y,Y,Y,Y,Y,Z,Z,Z,Z,Z,Z,Z,Z,Z,Z,Z,Z,Z,Z,Z,Z,Z,Z,Z,Z,Z,Z,Z,Z,Z] HT_ ?_; refine pz_ (i := 8) (N := some 32) (v := undef) #[Y,Y,Y,Y,Y,Y,Y,Y,Y,Z,Z,Z,Z,Z,Z,Z,Z,Z,Z,Z,Z,Z,Z,Z,Z,Z,Z,Z,Z,Z,Z,Z,Z] HT_ ?_; refine pz_ (i := 9) (N := some 33) (v := undef) #[Y,Y,Y,Y,Y,Y,Y,Y,Y,Y,Z,Z,Z,Z,Z,Z,Z,Z,Z,Z,Z,Z,Z,Z,Z,Z,Z,Z,Z,Z,Z,Z,Z] HT_ ?_; refine pz_ (i := 10) (N := some 34) (v := undef) #[Y,Y,Y,Y,Y,Y,Y,Y,Y,Y,Y,Z,Z,Z,Z,Z,Z,Z,Z,Z,Z,Z,Z,Z,Z,Z,Z,Z,Z,Z,Z,Z,Z] HT_ ?_; refine pz_ (i := 11) (N := some 35) (v := undef) #[Y,Y,Y,Y,Y,Y,Y,Y,Y,Y,Y,Y,Z,Z,Z,Z,Z,Z,Z,Z,Z,Z,Z,Z,Z,Z,Z,Z,Z,Z,Z,Z,Z] HT_ ?_; refine pz_ (i := 12) (N := some 36) (v := undef) #[Y,Y,Y,Y,Y,Y,Y,Y,Y,Y,Y,Y,Y,Z,Z,Z,Z,Z,Z,Z,Z,Z,Z,Z,Z,Z,Z,Z,Z,Z,Z,Z,Z] HT_ ?_; refine pz_ (i := 13) (N := some 37) (v := undef) #[Y,Y,Y,Y,Y,Y,Y,Y,Y,Y,Y,Y,Y,Y,Z,Z,Z,Z,Z,Z,Z,Z,Z,Z,Z,Z,Z,Z,Z,Z,Z,Z,Z] HT_ ?_; refine pz_ (i := 14) (N := some 38) (v := undef) #[Y,Y,Y,Y,Y,Y,Y,Y,Y,Y,Y,Y,Y,Y,Y,Z,Z,Z,Z,Z,Z,Z,Z,Z,Z,Z,Z,Z,Z,Z,Z,Z,Z] HT_ ?_; refine pq_ (i := 15) (N := some 39) #[Y,Y,Y,Y,Y,Y,Y,Y,Y,Y,Y,Y,Y,Y,Y,Y,Z,Z,Z,Z,Z,Z,Z,Z,Z,Z,Z,Z,Z,Z,Z,Z,Z] HT_ ?_; refine pq_ (i := 16) (N := some 40) #[Y,Y,Y,Y,Y,Y,Y,Y,Y,Y,Y,Y,Y,Y,Y,Y,Y,Z,Z,Z,Z,Z,Z,Z,Z,Z,Z,Z,Z,Z,Z,Z,Z] HT_ ?_; refine pz_ (i := 17) (N := some 41) (v := undef) #[Y,Y,Y,Y,Y,Y,Y,Y,Y,Y,Y,Y,Y,Y,Y,Y,Y,Y,Z,Z,Z,Z,Z,Z,Z,Z,Z,Z,Z,Z,Z,Z,Z] HT_ ?_; refine pz_ (i := 18) (N := some 42) (v := undef) #[Y,Y,Y,Y,Y,Y,Y,Y,Y,Y,Y,Y,Y,Y,Y,Y,Y,Y,Y,Z,Z,Z,Z,Z,Z,Z,Z,Z,Z,Z,Z,Z,Z] HT_ ?_; refine pz_ (i := 19) (N := some 43) (v := undef) #[Y,Y,Y,Y,Y,Y,Y,Y,Y,Y,Y,Y,Y,Y,Y,Y,Y,Y,Y,Y,Z,Z,Z,Z,Z,Z,Z,Z,Z,Z,Z,Z,Z] HT_ ?_; refine pz_ (i := 20) (N := some 44) (v := undef) #[Y,Y,Y,Y,Y,Y,Y,Y,Y,Y,Y,Y,Y,Y,Y,Y,Y,Y,Y,Y,Y,Z,Z,Z,Z,Z,Z,Z,Z,Z,Z,Z,Z] HT_ ?_; refine pz_ (i := 21) (N := some 45) (v := undef) #[Y,Y,Y,Y,Y,Y,Y,Y,Y,Y,Y,Y,Y,Y,Y,Y,Y,Y,Y,Y,Y,Y,Z,Z,Z,Z,Z,Z,Z,Z,Z,Z,Z] HT_ ?_; refine pz_ (i := 22) (N := some 46) (v := undef) #[Y,Y,Y,Y,Y,Y,Y,Y,Y,Y,Y,Y,Y,Y,Y,Y,Y,Y,Y,Y,Y,Y,Y,Z,Z,Z,Z,Z,Z,Z,Z,Z,Z] HT_ ?_; refine pz_ (i := 23) (N := some 47) (v := undef) #[Y,Y,Y,Y,Y,Y,Y,Y,Y,Y,Y,Y,Y,Y,Y,Y,Y,Y,Y,Y,Y,Y,Y,Y,Z,Z,Z,Z,Z,Z,Z,Z,Z] HT_ ?_; refine pz_ (i := 24) (N := some 48) (v := undef) #[Y,Y,Y,Y,Y,Y,Y,Y,Y,Y,Y,Y,Y,Y,Y,Y,Y,Y,Y,Y,Y,Y,Y,Y,Y,Z,Z,Z,Z,Z,Z,Z,Z] HT_ ?_; refine pz_ (i := 25) (N := some 49) (v := undef) #[Y,Y,Y,Y,Y,Y,Y,Y,Y,Y,Y,Y,Y,Y,Y,Y,Y,Y,Y,Y,Y,Y,Y,Y,Y,Y,Z,Z,Z,Z,Z,Z,Z] HT_ ?_; refine pz_ (i := 26) (N := some 50) (v := undef) #[Y,Y,Y,Y,Y,Y,Y,Y,Y,Y,Y,Y,Y,Y,Y,Y,Y,Y,Y,Y,Y,Y,Y,Y,Y,Y,Y,Z,Z,Z,Z,Z,Z] HT_ ?_; refine pz_ (i := 27) (N := some 51) (v := undef) #[Y,Y,Y,Y,Y,Y,Y,Y,Y,Y,Y,Y,Y,Y,Y,Y,Y,Y,Y,Y,Y,Y,Y,Y,Y,Y,Y,Y,Z,Z,Z,Z,Z] HT_ ?_; refine pz_ (i := 28) (N := some 52) (v := undef) #[Y,Y,Y,Y,Y,Y,Y,Y,Y,Y,Y,Y,Y,Y,Y,Y,Y,Y,Y,Y,Y,Y,Y,Y,Y,Y,Y,Y,Y,Z,Z,Z,Z] HT_ ?_; refine pz_ (i := 29) (N := some 53) (v := undef) #[Y,Y,Y,Y,Y,Y,Y,Y,Y,Y,Y,Y,Y,Y,Y,Y,Y,Y,Y,Y,Y,Y,Y,Y,Y,Y,Y,Y,Y,Y,Z,Z,Z] HT_ ?_; refine pz_ (i := 30) (N := some 54) (v := undef) #[Y,Y,Y,Y,Y,Y,Y,Y,Y,Y,Y,Y,Y,Y,Y,Y,Y,Y,Y,Y,Y,Y,Y,Y,Y,Y,Y,Y,Y,Y,Y,Z,Z] HT_ ?_
         refine pz_ (i := 31) (N := some 55) (v := undef) #[Y,Y,Y,Y,Y,Y,Y,Y,Y,Y,Y,Y,Y,Y,Y,Y,Y,Y,Y,Y,Y,Y,Y,Y,Y,Y,Y,Y,Y,Y,Y,Y,Z] HT_ ?_; refine pq_ (i := 32) (N := some 56) #[Y,Y,Y,Y,Y,Y,Y,Y,Y,Y,Y,Y,Y,Y,Y,Y,Y,Y,Y,Y,Y,Y,Y,Y,Y,Y,Y,Y,Y,Y,Y,Y,Y] HT_ ?_; refine done_ (done_of HT_.out (by kernel_rfl)) ?_; (try go_wp2)
         go_meet
         case rel => exact ⟨_, (true), sq, H', ⟨by have := HK1.out; first | omega | exact Nat.le_refl _⟩, ⟨bq⟩⟩
       ·rw [if_neg c8] at H
        exact absurd H (by simp)
      case rest =>
       clear HC7; (try clear c1); (try clear p1); (try clear q1); (try clear hx1); (try clear p2); (try clear c6); (try clear c8); (try clear c10); (try clear c12); (try clear p16); (try clear q16); (try clear hx16); (try clear hx167_0); (try clear hx167_1); (try clear hx169_0); (try clear hx169_1); (try clear p167); (try clear p169); (try clear q167); (try clear q169); obtain ⟨kq, x56_6, rfl, HA, HJ6, HB⟩ := hcut
       cases kq with
       | zero => exact absurd HA.out (by simp [spec_l8Body.j1])
       | succ kj6 =>
        have H := HA.out; clear HA; simp only [spec_l8Body.j1] at H
        by_cases c23 : x56_6 = true
        ·subst c23
         rw [if_pos rfl] at H; obtain rfl := Option.some.inj H; go_wp2; go_ret; exact ⟨eq_, bq⟩
        ·replace c23 := Bool.eq_false_iff.mpr c23
         subst c23; rw [if_neg (show ¬ (false = true) by decide)] at H
         by_cases c24 : 0 ≤ x5_1
         ·rw [if_pos c24] at H
          have c24b0 := decide_eq_true c24; clear c24
          by_cases c25 : x5_1 < (l0.length : Int)
          ·rw [if_pos c25] at H
           have c25b0 := decide_eq_true c25; clear c25; obtain ⟨t175, A260, H⟩ := Option.bind_eq_some_iff.mp H
           (try dsimp only at H)
           have A26 := ak A260; clear A260; obtain ⟨t177, A270, H⟩ := Option.bind_eq_some_iff.mp H
           (try dsimp only at H)
           have A27 := ak A270; clear A270; have H' := ak H; clear H; have p174 : 0 ≤ (x5_1 : Int) := dq; have q174 : x5_1 < (l0.length : Int) := dq; obtain ⟨ad174, e174, hx174_0, hx174_1⟩ := at_T49 HR0.out x5_1 p174 q174; obtain rfl : ad164 = ad174 := (by injection e174); replace hx174_0 := hb_ HB hx174_0; replace hx174_1 := hb_ HB hx174_1; replace p174 := eq_true p174; replace q174 := eq_true q174
           go_wp2_with (first | ((with_reducible refine gate_callee (f := 63) rfl ?_); refine goesL_ (some 63) rfl rfl Try.func63 (by kernel_rfl) rfl #[.int .i64 x3_1, .int .i64 ((rd_T49 l0 x5_1).f0)] rfl aq ?_; (with_reducible refine (spec_l1Least.calls x3_1 ((rd_T49 l0 x5_1).f0) t175 _ A26.out).mono ?_); rintro e w' ⟨rfl, ⟨nd, rfl⟩⟩; refine ⟨_, rfl, ?_⟩; have p176 : 0 ≤ (x5_1 : Int) := dq; have q176 : x5_1 < (l0.length : Int) := dq; obtain ⟨ad176, e176, hx176_0, hx176_1⟩ := at_T49 HR0.out x5_1 p176 q176; obtain rfl : ad164 = ad176 := (by injection e176); replace hx176_0 := hb_ HB hx176_0; replace hx176_1 := hb_ HB hx176_1; replace p176 := eq_true p176; replace q176 := eq_true q176) | ((with_reducible refine gate_callee (f := 63) rfl ?_); refine goesL_ (some 70) rfl rfl Try.func63 (by kernel_rfl) rfl #[.int .i64 x4_1, .int .i64 ((rd_T49 l0 x5_1).f1)] rfl aq ?_; (with_reducible refine (spec_l1Least.calls x4_1 ((rd_T49 l0 x5_1).f1) t177 _ A27.out).mono ?_); rintro e w' ⟨rfl, ⟨nd, rfl⟩⟩; refine ⟨_, rfl, ?_⟩))
           go_roundg kj6
           case measure => have := HK1.out; have := HJ6.out; omega
           case rel => exact ⟨(t175), (t177), (wrap64 (x5_1 + 1)), sq, sq, sq, H', ⟨by have := HK1.out; have := HJ6.out; omega⟩, ⟨bq⟩⟩
          ·rw [if_neg c25] at H
           exact absurd H (by simp)
         ·rw [if_neg c24] at H
          exact absurd H (by simp)
     ·rw [if_neg c6] at H
      have c6b0 := decide_eq_false c6; clear c6
      by_cases c28 : x3_1 = 0
      ·rw [if_pos c28] at H
       have c28b0 : (x3_1 == 0) = true := beq_iff_eq.mpr c28; have c28b1 : (x3_1 != 0) = false := bne_eq_false_iff_eq.mpr c28; clear c28
       by_cases c29 : x4_1 = 0
       ·rw [if_pos c29] at H
        have c29b0 : (x4_1 == 0) = true := beq_iff_eq.mpr c29; have c29b1 : (x4_1 != 0) = false := bne_eq_false_iff_eq.mpr c29; clear c29; obtain ⟨t166, A300, H⟩ := Option.bind_eq_some_iff.mp H
        (try dsimp only at H)
        have A30 := ak A300; clear A300; obtain rfl := Option.some.inj H
        go_wp2_with (first | (go_at_call 65; (with_reducible refine (spec_l8Hangs.calls k1 _ _ l0 t166 _ ?side1 ?side2 A30.out).mono ?_); (case side1 => exact cq (Kd.C_below HR0.out HB.out)); (case side2 => exact HC0.out); rintro e w31 ⟨rfl, hb⟩; have n0_ := ak (below_step bq hb); clear HB; have HB := n0_; clear n0_; (try clear hb); (try clear hb2); (try clear hk); (try clear hi)))
        go_ret; exact ⟨eq_, bq⟩
       ·rw [if_neg c29] at H
        have c29b0 : (x4_1 == 0) = false := beq_eq_false_iff_ne.mpr c29; have c29b1 : (x4_1 != 0) = true := bne_iff_ne.mpr c29; obtain rfl := Option.some.inj H; go_wp2; go_ret; exact ⟨eq_, bq⟩
      ·rw [if_neg c28] at H
       have c28b0 : (x3_1 == 0) = false := beq_eq_false_iff_ne.mpr c28; have c28b1 : (x3_1 != 0) = true := bne_iff_ne.mpr c28; obtain rfl := Option.some.inj H; go_wp2; go_ret; exact ⟨eq_, bq⟩
  ·rw [if_neg c4] at H
   exact absurd H (by simp)
 ·replace c3 := Bool.eq_false_iff.mpr c3
  subst c3; rw [if_neg (show ¬ (false = true) by decide)] at H; obtain rfl := Option.some.inj H
  go_enter Try.func55, Try.ntmps55
  go_wp2_with (first | ((with_reducible refine gate_callee (f := 60) rfl ?_); refine goesL_ (some 8) rfl rfl Try.func60 (by kernel_rfl) rfl #[.int .i64 (l0.length : Int), .int .i64 1, .int .i64 12] rfl aq ?_; (with_reducible refine (spec_l1In.calls (l0.length : Int) 1 12 false _ A2.out).mono ?_); rintro e w' ⟨rfl, ⟨nd, rfl⟩⟩; refine ⟨_, rfl, ?_⟩))
  go_ret; exact ⟨eq_, bq⟩

end Go.Proofs.Ytckhmeadflafaaa.XCb
