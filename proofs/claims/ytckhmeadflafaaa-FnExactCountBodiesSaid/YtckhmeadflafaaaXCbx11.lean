/- Functions of the program as plain Lean functions, each with the proof that the machine's call does what it says: written by a program of this session out of the translation. -/
import Derived.Test.YtckhmeadflafaaaXCbx0
import Derived.Test.YtckhmeadflafaaaXCbx6
import Derived.Test.YtckhmeadflafaaaXCbx10
namespace Go.Proofs.Ytckhmeadflafaaa.XCb
open Go.RowKit Go.Proofs.YtckhmeadflafaaaW.PrintWords Go.Proofs.YtckhmeadflafaaaW.PrintLast Go.Proofs.YtckhmeadflafaaaW.PrintMore
attribute [local go_sem] max2_int min2_int max_two min_two max_three min_three max_four min_four   -- for this text's walks alone
set_option linter.unusedVariables false
set_option linter.unusedSimpArgs false

/-! ### spec_l8Down: function 68 -/
mutual
def spec_l8Down.l0 : Nat → List (S49) → List (S49) → Int → Int → Int → Option ((List (S49)))
 | 0, _, _, _, _, _ => none
 | k + 1, x0, x3, x4, x5, x6 => if x6 < (x0.length : Int) then (if 0 ≤ x6 then ((spec_l1Least.f x4 ((rd_T49 x0 x6).f0)).bind fun t243 => ((spec_l1Least.f x5 ((rd_T49 x0 x6).f1)).bind fun t245 => (spec_l8Down.l0 k x0 x3 t243 t245 (wrap64 (x6 + 1))))) else (none)) else (spec_l8Down.l1 k x0 x3 x4 x5 0)
def spec_l8Down.l1 : Nat → List (S49) → List (S49) → Int → Int → Int → Option ((List (S49)))
 | 0, _, _, _, _, _ => none
 | k + 1, x0, x3, x4, x5, x7 => if x7 < (x0.length : Int) then (if 0 ≤ x7 then ((spec_l8Put.f k x3 (wrap64 (((rd_T49 x0 x7).f0) - x4)) (wrap64 (((rd_T49 x0 x7).f1) - x5))).bind fun t248 => (spec_l8Down.l1 k x0 t248 x4 x5 (wrap64 (x7 + 1)))) else (none)) else (some x3)
end
def spec_l8Down.f (k : Nat) (l0 : List (S49)) : Option ((List (S49))) := if 0 < (l0.length : Int) then (spec_l8Down.l0 k l0 (([] : List (S49))) ((rd_T49 l0 0).f0) ((rd_T49 l0 0).f1) 0) else (none)
theorem spec_l8Down.mono_l : ∀ k, (∀ y0 y1 y2 y3 y4, LeO (spec_l8Down.l0 k y0 y1 y2 y3 y4) (spec_l8Down.l0 (k + 1) y0 y1 y2 y3 y4)) ∧ (∀ y0 y1 y2 y3 y4, LeO (spec_l8Down.l1 k y0 y1 y2 y3 y4) (spec_l8Down.l1 (k + 1) y0 y1 y2 y3 y4))
 | 0 => ⟨fun _ _ _ _ _ r h => by simp [spec_l8Down.l0] at h, fun _ _ _ _ _ r h => by simp [spec_l8Down.l1] at h⟩
 | k + 1 => by
  obtain ⟨ih0, ih1⟩ := spec_l8Down.mono_l k; refine ⟨?_, ?_⟩
  ·intro y0 y1 y2 y3 y4
   unfold spec_l8Down.l0
   repeat' first
   | (with_reducible exact ih0 _ _ _ _ _)
   | (with_reducible exact ih1 _ _ _ _ _)
   | (with_reducible exact spec_l8Put.mono _ _ _ _)
   | (with_reducible exact LeO.refl _)
   | (with_reducible exact LeO.none _)
   | (with_reducible refine LeO.ite ?_ ?_)
   | (with_reducible refine LeO.bind ?_ (fun _ => ?_))
  ·intro y0 y1 y2 y3 y4
   unfold spec_l8Down.l1
   repeat' first
   | (with_reducible exact ih0 _ _ _ _ _)
   | (with_reducible exact ih1 _ _ _ _ _)
   | (with_reducible exact spec_l8Put.mono _ _ _ _)
   | (with_reducible exact LeO.refl _)
   | (with_reducible exact LeO.none _)
   | (with_reducible refine LeO.ite ?_ ?_)
   | (with_reducible refine LeO.bind ?_ (fun _ => ?_))
theorem spec_l8Down.mono : ∀ a0 k, LeO (spec_l8Down.f k a0) (spec_l8Down.f (k + 1) a0) := by
 intro a0 k; obtain ⟨ih0, ih1⟩ := spec_l8Down.mono_l k
 unfold spec_l8Down.f
 repeat' first
   | (with_reducible exact ih0 _ _ _ _ _)
   | (with_reducible exact ih1 _ _ _ _ _)
   | (with_reducible exact spec_l8Put.mono _ _ _ _)
   | (with_reducible exact LeO.refl _)
   | (with_reducible exact LeO.none _)
   | (with_reducible refine LeO.ite ?_ ?_)
   | (with_reducible refine LeO.bind ?_ (fun _ => ?_))
def spec_l8Down.T1 : Bool × List (List Nat × List Nat) := (true, [([], []), ([], []), ([1], [1]), ([2], [2]), ([3], [3]), ([], []), ([5], [5]), ([6], [6]), ([7], [7]), ([0, 0], [0]), ([4, 9, 0, 1, 2, 3, 4, 9], [4]), ([8, 10, 0, 1, 2, 3, 4, 5, 6, 7, 8, 9, 10], [8])])
def spec_l8Down.B1 : List Nat := [0, 0, 2, 6, 14, 0, 32, 96, 224, 1, 543, 2047]
theorem spec_l8Down.tab1 : rtab .any (opsOf Try.f68 1) = spec_l8Down.T1 := by kernel_rfl
theorem spec_l8Down.bits1 : waitsOk spec_l8Down.T1.2 spec_l8Down.B1 = true := by kernel_rfl
def spec_l8Down.T10 : Bool × List (List Nat × List Nat) := (true, [([], []), ([], []), ([], []), ([1, 2], [1, 2]), ([3], [3]), ([4], [4]), ([], []), ([5, 6], [5, 6]), ([], []), ([], []), ([8, 9], [8, 9]), ([10], [10]), ([11], [11]), ([], []), ([12, 13], [12, 13]), ([7, 14], [7, 14]), ([0, 15], [0, 15]), ([16, 16, 0, 1, 2, 3, 4, 5, 6, 7, 8, 9, 10, 11, 12, 13, 14, 15, 16], [0, 16])])
def spec_l8Down.B10 : List Nat := [0, 0, 0, 6, 14, 30, 0, 126, 0, 0, 768, 1792, 3840, 0, 16128, 32766, 65535, 131071]
theorem spec_l8Down.tab10 : rtab .any (opsOf Try.f68 10) = spec_l8Down.T10 := by kernel_rfl
theorem spec_l8Down.bits10 : waitsOk spec_l8Down.T10.2 spec_l8Down.B10 = true := by kernel_rfl
set_option maxHeartbeats 8000000 in
set_option maxRecDepth 100000 in
theorem spec_l8Down.calls (k : Nat) (A0 : Option Addr) (c0 : Nat) (l0 : List (S49)) (r : List (S49)) (w : World) (hr0 : Kd.C k49 w A0 l0.length l0) (hc0 : l0.length ≤ c0) (h : spec_l8Down.f k l0 = some r) :
  Calls Try.prog 68 #[.slice A0 l0.length c0] w fun e w' => ∃ v0_ : Value, e = .returned (v0_) ∧ Kd.R k49 49 w' w.heap.size (fun _ => True) v0_ r ∧ Below w.heap.size w w' := by
 have hu49 := Try.underlying49; have HR0 := ak hr0; have HC0 := ak hc0; clear hr0 hc0; have HB := ak (Below.refl w.heap.size w); have H : (if 0 < (l0.length : Int) then (spec_l8Down.l0 k l0 (([] : List (S49))) ((rd_T49 l0 0).f0) ((rd_T49 l0 0).f1) 0) else (none)) = some r := h; clear h; obtain ⟨y237, hy237⟩ : ∃ y_ : List (S49), y_ = (([] : List (S49))) := ⟨_, rfl⟩
 replace H : (if 0 < (l0.length : Int) then (spec_l8Down.l0 k l0 y237 ((rd_T49 l0 0).f0) ((rd_T49 l0 0).f1) 0) else (none)) = some r := by first | (rw [hy237]; with_reducible exact H) | (have H2_ := (Option.bind_some _ _).symm.trans H; rw [hy237]; with_reducible exact H2_) | (have H2_ := (Option.bind_some _ _).symm.trans H; with_reducible exact H2_) | with_reducible exact H | (rw [hy237]; exact H) | exact H
 have Ny237 := ak hy237; clear hy237
 by_cases c2 : 0 < (l0.length : Int)
 ·rw [if_pos c2] at H
  have c2b0 := decide_eq_true c2; have c2b1 : decide (0 < l0.length) = true := decide_eq_true (by omega); clear c2; have H' := ak H; clear H
  go_enter Try.func68, Try.ntmps68
  (try go_wp2); have n0_ := ak (below_drew1 HB.out); clear HB; have HB := n0_; clear n0_; have p240 : 0 ≤ (0 : Int) := (by omega); have q240 : 0 < (l0.length : Int) := dq; obtain ⟨ad240, e240, hx240_0, hx240_1⟩ := at_T49 HR0.out 0 p240 q240; have hw240_1 := hx240_1
  (try rw [show ((0 : Int)).toNat = 0 from rfl] at hw240_1)
  (try rw [show 0 * 2 = 0 from rfl] at hw240_1)
  (try rw [Addr.add_zero'] at hw240_1)
  have hw240_0 := hx240_0
  (try rw [show ((0 : Int)).toNat = 0 from rfl] at hw240_0)
  (try rw [show 0 * 2 = 0 from rfl] at hw240_0)
  (try rw [Addr.add_zero'] at hw240_0)
  cases e240; have qi240 : (0 < l0.length) = True := eq_true (by omega)
  (try rw [show ((0 : Int)).toNat = 0 from rfl] at hx240_0)
  (try rw [show 0 * 2 = 0 from rfl] at hx240_0)
  (try rw [Addr.add_zero'] at hx240_0)
  (try rw [show ((0 : Int)).toNat = 0 from rfl] at hx240_1)
  (try rw [show 0 * 2 = 0 from rfl] at hx240_1)
  (try rw [Addr.add_zero'] at hx240_1)
  replace hx240_0 := hb_ HB hx240_0; replace hx240_1 := hb_ HB hx240_1; replace p240 := eq_true p240; replace q240 := eq_true q240; have p241 : 0 ≤ (0 : Int) := (by omega); have q241 : 0 < (l0.length : Int) := dq; obtain ⟨ad241, e241, hx241_0, hx241_1⟩ := at_T49 HR0.out 0 p241 q241; have hw241_1 := hx241_1
  (try rw [show ((0 : Int)).toNat = 0 from rfl] at hw241_1)
  (try rw [show 0 * 2 = 0 from rfl] at hw241_1)
  (try rw [Addr.add_zero'] at hw241_1)
  have hw241_0 := hx241_0
  (try rw [show ((0 : Int)).toNat = 0 from rfl] at hw241_0)
  (try rw [show 0 * 2 = 0 from rfl] at hw241_0)
  (try rw [Addr.add_zero'] at hw241_0)
  obtain rfl : ad240 = ad241 := (by injection e241); have qi241 : (0 < l0.length) = True := eq_true (by omega)
  (try rw [show ((0 : Int)).toNat = 0 from rfl] at hx241_0)
  (try rw [show 0 * 2 = 0 from rfl] at hx241_0)
  (try rw [Addr.add_zero'] at hx241_0)
  (try rw [show ((0 : Int)).toNat = 0 from rfl] at hx241_1)
  (try rw [show 0 * 2 = 0 from rfl] at hx241_1)
  (try rw [Addr.add_zero'] at hx241_1)
  replace hx241_0 := hb_ HB hx241_0; replace hx241_1 := hb_ HB hx241_1; replace p241 := eq_true p241; replace q241 := eq_true q241; refine start_ (n := 12) (S := fun w' => w'.cell? ad240 = some (.int .i64 ((rd_T49 l0 0).f0)) ∧ w'.cell? ⟨ad240.block, ad240.off + 1, none⟩ = some (.int .i64 ((rd_T49 l0 0).f1)) ∧ w'.cell? ad240 = some (.int .i64 ((rd_T49 l0 0).f0)) ∧ w'.cell? ⟨ad240.block, ad240.off + 1, none⟩ = some (.int .i64 ((rd_T49 l0 0).f1))) (ds := []) #[Z,Z,Z,Z,Z,Z,Z,Z,Z,Z,Z,Z] (by kernel_rfl) rfl rfl ⟨((hb_ HB hw240_0).trans rfl), ((hb_ HB hw240_1).trans rfl), ((hb_ HB hw241_0).trans rfl), ((hb_ HB hw241_1).trans rfl)⟩ (fun hHeld => ?_); refine with_tabW spec_l8Down.tab1 spec_l8Down.bits1 (fun HT_ HW_ => ?_)
  generalize w.drew = w3 at HB hx240_0 hx240_1 hx241_0 hx241_1 hHeld ⊢
  refine pq_ (i := 1) (N := some 9) #[Z,Y,Z,Z,Z,Z,Z,Z,Z,Z,Z,Z] HT_ ?_; refine pq_ (i := 2) (N := some 10) #[Z,Y,Y,Z,Z,Z,Z,Z,Z,Z,Z,Z] HT_ ?_; refine pq_ (i := 3) (N := some 11) #[Z,Y,Y,Y,Z,Z,Z,Z,Z,Z,Z,Z] HT_ ?_; refine pq_ (i := 5) (N := some 13) #[Z,Y,Y,Y,Z,Y,Z,Z,Z,Z,Z,Z] HT_ ?_; refine pq_ (i := 6) (N := some 14) #[Z,Y,Y,Y,Z,Y,Y,Z,Z,Z,Z,Z] HT_ ?_; refine pq_ (i := 7) (N := some 15) #[Z,Y,Y,Y,Z,Y,Y,Y,Z,Z,Z,Z] HT_ ?_; refine tk_ (i := 4) (N := some 12) #[Z,Y,Y,Y,Y,Y,Y,Y,Z,Z,Z,Z] HT_ HW_ hHeld ?_; refine tk_ (i := 8) (N := some 16) #[Z,Y,Y,Y,Y,Y,Y,Y,Y,Z,Z,Z] HT_ HW_ hHeld ?_; refine one_ (i := 0) (N := some 8) #[Y,Y,Y,Y,Y,Y,Y,Y,Y,Z,Z,Z] rfl rfl (one_of HT_.out (by kernel_rfl)) (by decide) (fun K hK => ?_); refine Kd.R_lit_step k49 _ 49 ?hg (N := 8) ?hd (xs := ([] : List (S49))) (inner := []) (ok := fun _ => True) (okp := fun _ => True) ?hr ?hp (fun _ hk => hk) trivial (Below.refl _ _) (Nat.le_refl _) (by simp) ?_; (case hd => rfl); (case hg => rfl); (case hr => first | (go_simp; done) | (go_simp; rfl)); (case hp => exact (Reps.none _ _)); intro v238 w4 ho5 hb hg_ hnew_; clear hg_ hnew_
  (first | rw [← Ny237.out] at ho5 | (simp only [Int.reduceToNat] at ho5; rw [← Ny237.out] at ho5))
  have n0_ := ak (Kd.R_lower ho5 (below_size bq)); have n1_ := ak (below_step bq hb); clear HB; have HO239 := n0_; have HB := n1_; clear n0_ n1_; clear hb ho5; refine hK.out _ _ ⟨((hb_ HB hw240_0).trans rfl), ((hb_ HB hw240_1).trans rfl), ((hb_ HB hw241_0).trans rfl), ((hb_ HB hw241_1).trans rfl)⟩ (fun hHeld => ?_); clear hK K; refine norm_ (a' := ?_) ?_ ?_; rotate_left
  ·show Act.put _ (some 8) _ = _
   simp only [Act.put, sA, sZ, sS, i64_w, i32_w]
   rfl
  refine pq_ (i := 9) (N := some 3) #[Y,Y,Y,Y,Y,Y,Y,Y,Y,Y,Z,Z] HT_ ?_; refine pq_ (i := 10) (N := some 4) #[Y,Y,Y,Y,Y,Y,Y,Y,Y,Y,Y,Z] HT_ ?_; refine pq_ (i := 11) (N := some 5) #[Y,Y,Y,Y,Y,Y,Y,Y,Y,Y,Y,Y] HT_ ?_; refine done_ (done_of HT_.out (by kernel_rfl)) ?_; (try go_wp2)
  go_loopg [4, 5, 6] k (fun kq v4 v5 v6 w' => ∃ (x4_1 : Int) (x5_1 : Int) (x6_1 : Int), v4 = .int .i64 x4_1 ∧ v5 = .int .i64 x5_1 ∧ v6 = .int .i64 x6_1 ∧ Aside0 (spec_l8Down.l0 kq l0 y237 x4_1 x5_1 x6_1 = some r) ∧ Aside0 (kq ≤ k) ∧ Aside0 (Kd.R k49 49 w' w.heap.size (fun _ => True) v238 y237) ∧ Aside0 (Below w.heap.size w w'))
  case atStart => exact ⟨((rd_T49 l0 0).f0), ((rd_T49 l0 0).f1), (0), sq, sq, sq, H', ⟨Nat.le_refl _⟩, ⟨rq HO239⟩, ⟨bq⟩⟩
  case round =>
   clear H'; (try clear c2); (try clear c2b0); (try clear c2b1); (try clear p2); (try clear q2); (try clear hx2); (try clear qi2); (try clear hx240_0); (try clear hx240_1); (try clear hx241_0); (try clear hx241_1); (try clear p240); (try clear p241); (try clear q240); (try clear q241); obtain ⟨x4_1, x5_1, x6_1, rfl, rfl, rfl, HA, HK1, HO_3, HB⟩ := hrel
   cases gk with
   | zero => exact absurd HA.out (by simp [spec_l8Down.l0])
   | succ k1 =>
    have H := HA.out; clear HA; simp only [spec_l8Down.l0] at H
    by_cases c6 : x6_1 < (l0.length : Int)
    ·rw [if_pos c6] at H
     have c6b0 := decide_eq_true c6; clear c6
     by_cases c7 : 0 ≤ x6_1
     ·rw [if_pos c7] at H
      have c7b0 := decide_eq_true c7; clear c7; obtain ⟨t243, A80, H⟩ := Option.bind_eq_some_iff.mp H
      (try dsimp only at H)
      have A8 := ak A80; clear A80; obtain ⟨t245, A90, H⟩ := Option.bind_eq_some_iff.mp H
      (try dsimp only at H)
      have A9 := ak A90; clear A90; have H' := ak H; clear H; have p242 : 0 ≤ (x6_1 : Int) := dq; have q242 : x6_1 < (l0.length : Int) := dq; obtain ⟨ad242, e242, hx242_0, hx242_1⟩ := at_T49 HR0.out x6_1 p242 q242; obtain rfl : ad240 = ad242 := (by injection e242); replace hx242_0 := hb_ HB hx242_0; replace hx242_1 := hb_ HB hx242_1; replace p242 := eq_true p242; replace q242 := eq_true q242
      go_wp2_with (first | ((with_reducible refine gate_callee (f := 63) rfl ?_); refine goesL_ (some 29) rfl rfl Try.func63 (by kernel_rfl) rfl #[.int .i64 x4_1, .int .i64 ((rd_T49 l0 x6_1).f0)] rfl aq ?_; (with_reducible refine (spec_l1Least.calls x4_1 ((rd_T49 l0 x6_1).f0) t243 _ A8.out).mono ?_); rintro e w' ⟨rfl, ⟨nd, rfl⟩⟩; refine ⟨_, rfl, ?_⟩; have p244 : 0 ≤ (x6_1 : Int) := dq; have q244 : x6_1 < (l0.length : Int) := dq; obtain ⟨ad244, e244, hx244_0, hx244_1⟩ := at_T49 HR0.out x6_1 p244 q244; obtain rfl : ad240 = ad244 := (by injection e244); replace hx244_0 := hb_ HB hx244_0; replace hx244_1 := hb_ HB hx244_1; replace p244 := eq_true p244; replace q244 := eq_true q244) | ((with_reducible refine gate_callee (f := 63) rfl ?_); refine goesL_ (some 36) rfl rfl Try.func63 (by kernel_rfl) rfl #[.int .i64 x5_1, .int .i64 ((rd_T49 l0 x6_1).f1)] rfl aq ?_; (with_reducible refine (spec_l1Least.calls x5_1 ((rd_T49 l0 x6_1).f1) t245 _ A9.out).mono ?_); rintro e w' ⟨rfl, ⟨nd, rfl⟩⟩; refine ⟨_, rfl, ?_⟩))
      go_roundg k1
      case measure => have := HK1.out; omega
      case rel => exact ⟨(t243), (t245), (wrap64 (x6_1 + 1)), sq, sq, sq, H', ⟨by have := HK1.out; omega⟩, ⟨rq HO_3⟩, ⟨bq⟩⟩
     ·rw [if_neg c7] at H
      exact absurd H (by simp)
    ·rw [if_neg c6] at H
     have c6b0 := decide_eq_false c6; clear c6; have H' := ak H; clear H; go_wp2
     go_loopg [3, 7] k1 (fun kq v3 v7 w' => ∃ (x3_2 : List (S49)) (x7_2 : Int), v7 = .int .i64 x7_2 ∧ Aside0 (spec_l8Down.l1 kq l0 x3_2 x4_1 x5_1 x7_2 = some r) ∧ Aside0 (kq ≤ k1) ∧ Aside0 (Kd.R k49 49 w' w.heap.size (fun _ => True) v3 x3_2) ∧ Aside0 (Below w.heap.size w w'))
     case atStart => exact ⟨(y237), (0), sq, H', ⟨Nat.le_refl _⟩, ⟨rq HO_3⟩, ⟨bq⟩⟩
     case round =>
      clear H'; (try clear c2); (try clear c2b0); (try clear c2b1); (try clear p2); (try clear q2); (try clear hx2); (try clear qi2); (try clear c6); (try clear c6b0); (try clear p6); (try clear c7); (try clear c7b0); (try clear hx240_0); (try clear hx240_1); (try clear hx241_0); (try clear hx241_1); (try clear hx242_0); (try clear hx242_1); (try clear hx244_0); (try clear hx244_1); (try clear p2); (try clear p240); (try clear p241); (try clear p242); (try clear p244); (try clear q2); (try clear q240); (try clear q241); (try clear q242); (try clear q244); obtain ⟨x3_2, x7_2, rfl, HA, HK2, HO_3, HB⟩ := hrel
      cases gk with
      | zero => exact absurd HA.out (by simp [spec_l8Down.l1])
      | succ k2 =>
       have H := HA.out; clear HA; simp only [spec_l8Down.l1] at H
       by_cases c10 : x7_2 < (l0.length : Int)
       ·rw [if_pos c10] at H
        have c10b0 := decide_eq_true c10; clear c10
        by_cases c11 : 0 ≤ x7_2
        ·rw [if_pos c11] at H
         have c11b0 := decide_eq_true c11; clear c11; obtain ⟨t248, A120, H⟩ := Option.bind_eq_some_iff.mp H
         (try dsimp only at H)
         have A12 := ak A120; clear A120; have H' := ak H; clear H; (try go_wp2); have n0_ := ak (Kd.R_drew HO_3.out); have n1_ := ak (below_drew1 HB.out); clear HO_3; clear HB; have HO_3 := n0_; have HB := n1_; clear n0_ n1_; have p246 : 0 ≤ (x7_2 : Int) := dq; have q246 : x7_2 < (l0.length : Int) := dq; obtain ⟨ad246, e246, hx246_0, hx246_1⟩ := at_T49 HR0.out x7_2 p246 q246; have hw246_1 := hx246_1; have hw246_0 := hx246_0; obtain rfl : ad240 = ad246 := (by injection e246); replace hx246_0 := hb_ HB hx246_0; replace hx246_1 := hb_ HB hx246_1; replace p246 := eq_true p246; replace q246 := eq_true q246; have p247 : 0 ≤ (x7_2 : Int) := dq; have q247 : x7_2 < (l0.length : Int) := dq; obtain ⟨ad247, e247, hx247_0, hx247_1⟩ := at_T49 HR0.out x7_2 p247 q247; have hw247_1 := hx247_1; have hw247_0 := hx247_0; obtain rfl : ad240 = ad247 := (by injection e247); replace hx247_0 := hb_ HB hx247_0; replace hx247_1 := hb_ HB hx247_1; replace p247 := eq_true p247; replace q247 := eq_true q247; obtain ⟨Ao14, co14, eo14⟩ := Kd.R_slice HO_3.out
         (first | subst eo14 | (injection eo14 with f1_ f2_ f3_; have f4_ := f1_.symm; have f5_ := f3_.symm; clear f1_ f2_ f3_; subst f4_; subst f5_))
         refine start_ (n := 18) (S := fun w' => w'.cell? (ad240.add ((x7_2).toNat * 2)) = some (.int .i64 ((rd_T49 l0 x7_2).f0)) ∧ w'.cell? ⟨(ad240.add ((x7_2).toNat * 2)).block, (ad240.add ((x7_2).toNat * 2)).off + 1, none⟩ = some (.int .i64 ((rd_T49 l0 x7_2).f1)) ∧ w'.cell? (ad240.add ((x7_2).toNat * 2)) = some (.int .i64 ((rd_T49 l0 x7_2).f0)) ∧ w'.cell? ⟨(ad240.add ((x7_2).toNat * 2)).block, (ad240.add ((x7_2).toNat * 2)).off + 1, none⟩ = some (.int .i64 ((rd_T49 l0 x7_2).f1))) (ds := []) #[Z,Z,Z,Z,Z,Z,Z,Z,Z,Z,Z,Z,Z,Z,Z,Z,Z,Z] (by kernel_rfl) rfl rfl ⟨((hb_ HB hw246_0).trans rfl), ((hb_ HB hw246_1).trans rfl), ((hb_ HB hw247_0).trans rfl), ((hb_ HB hw247_1).trans rfl)⟩ (fun hHeld => ?_); refine with_tabW spec_l8Down.tab10 spec_l8Down.bits10 (fun HT_ HW_ => ?_)
         generalize wr.drew = w13 at HO_3 HB hx246_0 hx246_1 hx247_0 hx247_1 hHeld ⊢
         refine pq_ (i := 0) (N := some 43) #[Y,Z,Z,Z,Z,Z,Z,Z,Z,Z,Z,Z,Z,Z,Z,Z,Z,Z] HT_ ?_; refine pq_ (i := 1) (N := some 44) #[Y,Y,Z,Z,Z,Z,Z,Z,Z,Z,Z,Z,Z,Z,Z,Z,Z,Z] HT_ ?_; refine pq_ (i := 2) (N := some 45) #[Y,Y,Y,Z,Z,Z,Z,Z,Z,Z,Z,Z,Z,Z,Z,Z,Z,Z] HT_ ?_; refine pq_ (i := 3) (N := some 46) #[Y,Y,Y,Y,Z,Z,Z,Z,Z,Z,Z,Z,Z,Z,Z,Z,Z,Z] HT_ ?_; refine pq_ (i := 4) (N := some 47) #[Y,Y,Y,Y,Y,Z,Z,Z,Z,Z,Z,Z,Z,Z,Z,Z,Z,Z] HT_ ?_; refine pq_ (i := 6) (N := some 49) #[Y,Y,Y,Y,Y,Z,Y,Z,Z,Z,Z,Z,Z,Z,Z,Z,Z,Z] HT_ ?_; refine pq_ (i := 8) (N := some 51) #[Y,Y,Y,Y,Y,Z,Y,Z,Y,Z,Z,Z,Z,Z,Z,Z,Z,Z] HT_ ?_; refine pq_ (i := 9) (N := some 52) #[Y,Y,Y,Y,Y,Z,Y,Z,Y,Y,Z,Z,Z,Z,Z,Z,Z,Z] HT_ ?_; refine pq_ (i := 10) (N := some 53) #[Y,Y,Y,Y,Y,Z,Y,Z,Y,Y,Y,Z,Z,Z,Z,Z,Z,Z] HT_ ?_; refine pq_ (i := 11) (N := some 54) #[Y,Y,Y,Y,Y,Z,Y,Z,Y,Y,Y,Y,Z,Z,Z,Z,Z,Z] HT_ ?_; refine pq_ (i := 13) (N := some 56) #[Y,Y,Y,Y,Y,Z,Y,Z,Y,Y,Y,Y,Z,Y,Z,Z,Z,Z] HT_ ?_; refine tk_ (i := 5) (N := some 48) #[Y,Y,Y,Y,Y,Y,Y,Z,Y,Y,Y,Y,Z,Y,Z,Z,Z,Z] HT_ HW_ hHeld ?_; refine pq_ (i := 7) (N := some 50) #[Y,Y,Y,Y,Y,Y,Y,Y,Y,Y,Y,Y,Z,Y,Z,Z,Z,Z] HT_ ?_; refine tk_ (i := 12) (N := some 55) #[Y,Y,Y,Y,Y,Y,Y,Y,Y,Y,Y,Y,Y,Y,Z,Z,Z,Z] HT_ HW_ hHeld ?_; refine pq_ (i := 14) (N := some 57) #[Y,Y,Y,Y,Y,Y,Y,Y,Y,Y,Y,Y,Y,Y,Y,Z,Z,Z] HT_ ?_; refine pq_ (i := 15) (N := some 58) #[Y,Y,Y,Y,Y,Y,Y,Y,Y,Y,Y,Y,Y,Y,Y,Y,Z,Z] HT_ ?_; refine one_ (i := 16) (N := some 59) #[Y,Y,Y,Y,Y,Y,Y,Y,Y,Y,Y,Y,Y,Y,Y,Y,Y,Z] rfl rfl (one_of HT_.out (by kernel_rfl)) (by decide) (fun K hK => ?_); refine goes_ Try.func91 (by kernel_rfl) rfl #[.slice Ao14 x3_2.length co14, .agg #[.int .i64 (wrap64 (((rd_T49 l0 x7_2).f0) - x4_1)), .int .i64 (wrap64 (((rd_T49 l0 x7_2).f1) - x5_1))]] (by rfl) rfl rfl aq ?_
         with_reducible refine (spec_l8Put.calls k2 _ _ x3_2 (wrap64 (((rd_T49 l0 x7_2).f0) - x4_1)) (wrap64 (((rd_T49 l0 x7_2).f1) - x5_1)) t248 _ ?side1 ?side2 A12.out).mono ?_
         (case side1 => exact cq (Kd.R_reads' HO_3.out).2.2)
         (case side2 => exact (Kd.R_reads' HO_3.out).2.1)
         rintro e w15 ⟨v249, rfl, ho0, hb⟩
         refine ⟨_, rfl, ?_⟩; have n0_ := ak (Kd.R_elder' (rq HO_3) (Kd.R_base ho0) hb); have n1_ := ak (Kd.R_lower (Kd.R_new' ho0 (Kd.R_lt (rq HO_3))) (below_size bq)); have n2_ := ak (below_step bq hb); clear HO_3; clear HB; have HO_3 := n0_; have HO250 := n1_; have HB := n2_; clear n0_ n1_ n2_
         (try clear hb)
         (try clear hb2)
         (try clear hk)
         (try clear hi)
         (try clear ho0)
         refine hK.out _ _ ⟨((hb_ HB hw246_0).trans rfl), ((hb_ HB hw246_1).trans rfl), ((hb_ HB hw247_0).trans rfl), ((hb_ HB hw247_1).trans rfl)⟩ (fun hHeld => ?_); clear hK K; refine norm_ (a' := ?_) ?_ ?_; rotate_left
         ·show Act.put _ (some 59) _ = _
          simp only [Act.put, sA, sZ, sS, i64_w, i32_w]
          rfl
         refine pq_ (i := 17) (N := some 3) #[Y,Y,Y,Y,Y,Y,Y,Y,Y,Y,Y,Y,Y,Y,Y,Y,Y,Y] HT_ ?_; refine done_ (done_of HT_.out (by kernel_rfl)) ?_; (try go_wp2); go_roundg k2
         case measure => have := HK1.out; have := HK2.out; omega
         case rel => exact ⟨(t248), (wrap64 (x7_2 + 1)), sq, H', ⟨by have := HK1.out; have := HK2.out; omega⟩, ⟨by (with_reducible repeat (first | apply Kd.R_alloc | apply Kd.R_drewN | apply Kd.R_drew)); exact Kd.R_mono HO250.out (fun _ hk => trivial)⟩, ⟨bq⟩⟩
        ·rw [if_neg c11] at H
         exact absurd H (by simp)
       ·rw [if_neg c10] at H
        have c10b0 := decide_eq_false c10; clear c10; obtain rfl := Option.some.inj H; go_wp2; go_ret; exact ⟨_, eq_, rq HO_3, bq⟩
 ·rw [if_neg c2] at H
  exact absurd H (by simp)

end Go.Proofs.Ytckhmeadflafaaa.XCb
