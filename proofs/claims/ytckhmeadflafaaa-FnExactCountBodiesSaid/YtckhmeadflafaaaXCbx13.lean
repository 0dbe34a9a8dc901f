/- Functions of the program as plain Lean functions, each with the proof that the machine's call does what it says: written by a program of this session out of the translation. -/
import Derived.Test.YtckhmeadflafaaaXCbx0
import Derived.Test.YtckhmeadflafaaaXCbx9
import Derived.Test.YtckhmeadflafaaaXCbx10
import Derived.Test.YtckhmeadflafaaaXCbx11
import Derived.Test.YtckhmeadflafaaaXCbx12
namespace Go.Proofs.Ytckhmeadflafaaa.XCb
open Go.RowKit Go.Proofs.YtckhmeadflafaaaW.PrintWords Go.Proofs.YtckhmeadflafaaaW.PrintLast Go.Proofs.YtckhmeadflafaaaW.PrintMore
attribute [local go_sem] max2_int min2_int max_two min_two max_three min_three max_four min_four   -- for this text's walks alone
set_option linter.unusedVariables false
set_option linter.unusedSimpArgs false

/-! ### spec_l8All: function 78 -/
mutual
def spec_l8All.l0 : Nat → Int → List (List (S49)) → Int → Option ((List (List (S49))))
 | 0, _, _, _ => none
 | k + 1, x0, x3, x4 => if x4 < x0 then (spec_l8All.l1 k x0 x3 x4 (([] : List (List (S49)))) 0) else (some x3)
def spec_l8All.l1 : Nat → Int → List (List (S49)) → Int → List (List (S49)) → Int → Option ((List (List (S49))))
 | 0, _, _, _, _, _ => none
 | k + 1, x0, x3, x4, x5, x6 => if x6 < (x3.length : Int) then (if 0 ≤ x6 then ((spec_l8Edge.f k (rd_L3 x3 x6)).bind fun t264 => (spec_l8All.l2 k x0 x3 x4 x5 x6 t264 0)) else (none)) else (spec_l8All.l0 k x0 x5 (wrap64 (x4 + 1)))
def spec_l8All.l2 : Nat → Int → List (List (S49)) → Int → List (List (S49)) → Int → List (S49) → Int → Option ((List (List (S49))))
 | 0, _, _, _, _, _, _, _ => none
 | k + 1, x0, x3, x4, x5, x6, x7, x8 => if x8 < (x7.length : Int) then (if 0 ≤ x6 then (if x6 < (x3.length : Int) then (if 0 ≤ x8 then ((spec_l8Put.f k (rd_L3 x3 x6) ((rd_T49 x7 x8).f0) ((rd_T49 x7 x8).f1)).bind fun t269 => ((spec_l8Down.f k t269).bind fun t272 => ((spec_l8Found.f k x5 t272).bind fun t275 => (if t275 = true then (spec_l8All.l2 k x0 x3 x4 x5 x6 x7 (wrap64 (x8 + 1))) else (if x5.length < 5864062014805 then (spec_l8All.l2 k x0 x3 x4 (x5 ++ [t272]) x6 x7 (wrap64 (x8 + 1))) else (none)))))) else (none)) else (none)) else (none)) else (spec_l8All.l1 k x0 x3 x4 x5 (wrap64 (x6 + 1)))
end
def spec_l8All.f (k : Nat) (a0 : Int) : Option ((List (List (S49)))) := spec_l8All.l0 k a0 (([(([(⟨0, 0⟩ : S49)] : List (S49)))] : List (List (S49)))) 1
theorem spec_l8All.mono_l : ∀ k, (∀ y0 y1 y2, LeO (spec_l8All.l0 k y0 y1 y2) (spec_l8All.l0 (k + 1) y0 y1 y2)) ∧ (∀ y0 y1 y2 y3 y4, LeO (spec_l8All.l1 k y0 y1 y2 y3 y4) (spec_l8All.l1 (k + 1) y0 y1 y2 y3 y4)) ∧ (∀ y0 y1 y2 y3 y4 y5 y6, LeO (spec_l8All.l2 k y0 y1 y2 y3 y4 y5 y6) (spec_l8All.l2 (k + 1) y0 y1 y2 y3 y4 y5 y6))
 | 0 => ⟨fun _ _ _ r h => by simp [spec_l8All.l0] at h, fun _ _ _ _ _ r h => by simp [spec_l8All.l1] at h, fun _ _ _ _ _ _ _ r h => by simp [spec_l8All.l2] at h⟩
 | k + 1 => by
  obtain ⟨ih0, ih1, ih2⟩ := spec_l8All.mono_l k; refine ⟨?_, ?_, ?_⟩
  ·intro y0 y1 y2
   unfold spec_l8All.l0
   repeat' first
   | (with_reducible exact ih0 _ _ _)
   | (with_reducible exact ih1 _ _ _ _ _)
   | (with_reducible exact ih2 _ _ _ _ _ _ _)
   | (with_reducible exact spec_l8Down.mono _ _)
   | (with_reducible exact spec_l8Edge.mono _ _)
   | (with_reducible exact spec_l8Found.mono _ _ _)
   | (with_reducible exact spec_l8Put.mono _ _ _ _)
   | (with_reducible exact LeO.refl _)
   | (with_reducible exact LeO.none _)
   | (with_reducible refine LeO.ite ?_ ?_)
   | (with_reducible refine LeO.bind ?_ (fun _ => ?_))
  ·intro y0 y1 y2 y3 y4
   unfold spec_l8All.l1
   repeat' first
   | (with_reducible exact ih0 _ _ _)
   | (with_reducible exact ih1 _ _ _ _ _)
   | (with_reducible exact ih2 _ _ _ _ _ _ _)
   | (with_reducible exact spec_l8Down.mono _ _)
   | (with_reducible exact spec_l8Edge.mono _ _)
   | (with_reducible exact spec_l8Found.mono _ _ _)
   | (with_reducible exact spec_l8Put.mono _ _ _ _)
   | (with_reducible exact LeO.refl _)
   | (with_reducible exact LeO.none _)
   | (with_reducible refine LeO.ite ?_ ?_)
   | (with_reducible refine LeO.bind ?_ (fun _ => ?_))
  ·intro y0 y1 y2 y3 y4 y5 y6
   unfold spec_l8All.l2
   repeat' first
   | (with_reducible exact ih0 _ _ _)
   | (with_reducible exact ih1 _ _ _ _ _)
   | (with_reducible exact ih2 _ _ _ _ _ _ _)
   | (with_reducible exact spec_l8Down.mono _ _)
   | (with_reducible exact spec_l8Edge.mono _ _)
   | (with_reducible exact spec_l8Found.mono _ _ _)
   | (with_reducible exact spec_l8Put.mono _ _ _ _)
   | (with_reducible exact LeO.refl _)
   | (with_reducible exact LeO.none _)
   | (with_reducible refine LeO.ite ?_ ?_)
   | (with_reducible refine LeO.bind ?_ (fun _ => ?_))
theorem spec_l8All.mono : ∀ a0 k, LeO (spec_l8All.f k a0) (spec_l8All.f (k + 1) a0) := by
 intro a0 k; obtain ⟨ih0, ih1, ih2⟩ := spec_l8All.mono_l k
 unfold spec_l8All.f
 repeat' first
   | (with_reducible exact ih0 _ _ _)
   | (with_reducible exact ih1 _ _ _ _ _)
   | (with_reducible exact ih2 _ _ _ _ _ _ _)
   | (with_reducible exact spec_l8Down.mono _ _)
   | (with_reducible exact spec_l8Edge.mono _ _)
   | (with_reducible exact spec_l8Found.mono _ _ _)
   | (with_reducible exact spec_l8Put.mono _ _ _ _)
   | (with_reducible exact LeO.refl _)
   | (with_reducible exact LeO.none _)
   | (with_reducible refine LeO.ite ?_ ?_)
   | (with_reducible refine LeO.bind ?_ (fun _ => ?_))
def spec_l8All.T13 : Bool × List (List Nat × List Nat) := (true, [([], []), ([], []), ([0, 1], [0, 1]), ([2], [2]), ([], []), ([], []), ([4, 5], [4, 5]), ([6], [6]), ([3, 7], [3, 7]), ([8, 8], [8]), ([9, 9, 0, 1, 2, 3, 4, 5, 6, 7, 8, 9], [9])])
def spec_l8All.B13 : List Nat := [0, 0, 3, 7, 0, 0, 48, 112, 255, 511, 1023]
theorem spec_l8All.tab13 : rtab .any (opsOf Try.f78 13) = spec_l8All.T13 := by kernel_rfl
theorem spec_l8All.bits13 : waitsOk spec_l8All.T13.2 spec_l8All.B13 = true := by kernel_rfl
set_option maxHeartbeats 8000000 in
set_option maxRecDepth 100000 in
theorem spec_l8All.calls (k : Nat) (a0 : Int) (r : List (List (S49))) (w : World) (h : spec_l8All.f k a0 = some r) :
  Calls Try.prog 78 #[.int .i64 a0] w fun e w' => ∃ v0_ : Value, e = .returned (v0_) ∧ Kd.N (Kd.slice 49 k49) 22 w' w.heap.size (fun k_ => (w.heap.size ≤ k_)) v0_ r ∧ Below w.heap.size w w' := by
 have hu49 := Try.underlying49; have HB := ak (Below.refl w.heap.size w); have H : (spec_l8All.l0 k a0 (([(([(⟨0, 0⟩ : S49)] : List (S49)))] : List (List (S49)))) 1) = some r := h; clear h; obtain ⟨y254, hy254⟩ : ∃ y_ : List (S49), y_ = (([(⟨0, 0⟩ : S49)] : List (S49))) := ⟨_, rfl⟩
 replace H : (spec_l8All.l0 k a0 (([y254] : List (List (S49)))) 1) = some r := by first | (rw [hy254]; with_reducible exact H) | (have H2_ := (Option.bind_some _ _).symm.trans H; rw [hy254]; with_reducible exact H2_) | (have H2_ := (Option.bind_some _ _).symm.trans H; with_reducible exact H2_) | with_reducible exact H | (rw [hy254]; exact H) | exact H
 have Ny254 := ak hy254; clear hy254; obtain ⟨y257, hy257⟩ : ∃ y_ : List (List (S49)), y_ = (([y254] : List (List (S49)))) := ⟨_, rfl⟩
 replace H : (spec_l8All.l0 k a0 y257 1) = some r := by first | (rw [hy257]; with_reducible exact H) | (have H2_ := (Option.bind_some _ _).symm.trans H; rw [hy257]; with_reducible exact H2_) | (have H2_ := (Option.bind_some _ _).symm.trans H; with_reducible exact H2_) | with_reducible exact H | (rw [hy257]; exact H) | exact H
 have Ny257 := ak hy257; clear hy257; have H' := ak H; clear H
 go_enter Try.func78, Try.ntmps78
 go_wp2_with (first | ((with_reducible refine gate_dst (N := 11) rfl ?_); refine Kd.R_lit k49 _ 49 ?hg (N := 11) ?hd (xs := ([(⟨0, 0⟩ : S49)] : List (S49))) (inner := [.int .i64 0, .int .i64 0]) (ok := fun _ => True) (okp := fun _ => True) ?hr ?hp (fun _ hk => hk) trivial (Below.refl _ _) (Nat.le_refl _) (by simp) ?_; (case hd => rfl); (case hg => rfl); (case hr => first | (go_simp; done) | (go_simp; rfl)); (case hp => exact (Reps.c2 (show Kd.M k49 _ _ _ (⟨0, 0⟩ : S49) [.int .i64 0, .int .i64 0] from (k49_mkM _ _ _ (⟨0, 0⟩ : S49) )) (Reps.none _ _))); intro v255 w2 ho3 hb hg_ hnew_; clear hg_ hnew_; (first | rw [← Ny254.out] at ho3 | (simp only [Int.reduceToNat] at ho3; rw [← Ny254.out] at ho3)); have n0_ := ak (Kd.R_lower (Kd.R_newM (M := fun k_ => (w.heap.size ≤ k_)) ho3 (below_size bq) (fun k_ h_ => h_)) (below_size bq)); have n1_ := ak (below_step bq hb); clear HB; have HO256 := n0_; have HB := n1_; clear n0_ n1_; clear hb ho3; obtain ⟨Ao4, co4, eo4⟩ := Kd.R_slice HO256.out; subst eo4) | ((with_reducible refine gate_dst (N := 12) rfl ?_); refine Kd.N_lit (Kd.slice 49 k49) _ 22 ?hg (N' := 12) ?hd (xs := ([y254] : List (List (S49)))) (inner := [.slice Ao4 y254.length co4]) (ok := (fun k_ => (w.heap.size ≤ k_))) (okp := (fun k_ => (w.heap.size ≤ k_))) ?hr ?hp (fun _ hk => hk) ((show ∀ k_, w2.heap.size ≤ k_ → (fun k_ => (w.heap.size ≤ k_)) k_ from fun k_ hk => (Nat.le_trans (below_size bq) hk)) _ (Nat.le_refl _)) (Below.refl _ _) (Nat.le_refl _) (by simp) ?_; (case hd => rfl); (case hg => rfl); (case hr => first | (go_simp; done) | (go_simp; rfl)); (case hp => exact (Reps.one (show Kd.FK (Kd.slice 49 k49) _ _ y254 [.slice Ao4 y254.length co4] from (Kd.FK_slice_mk (Kd.R_reads' (Kd.R_mono (ok' := (fun k_ => (w.heap.size ≤ k_))) (HO256.out) (fun k_ hk => hk.1))).2.1 (Kd.R_F (Kd.R_mono (ok' := (fun k_ => (w.heap.size ≤ k_))) (HO256.out) (fun k_ hk => hk.1))))) (Reps.none _ _))); intro v258 w5 ho6 hb hg_ hnew_; clear hg_ hnew_; (first | rw [← Ny257.out] at ho6 | (simp only [Int.reduceToNat] at ho6; rw [← Ny257.out] at ho6)); have n0_ := ak (Kd.N_lower ho6 (below_size bq)); have n1_ := ak (below_step bq hb); clear HB; clear HO256; have HO259 := n0_; have HB := n1_; clear n0_ n1_; clear hb ho6))
 (try simp only [Act.put, sA, sZ, sS])
 go_loopg [3, 4] k (fun kq v3 v4 w' => ∃ (x3_1 : List (List (S49))) (x4_1 : Int), v4 = .int .i64 x4_1 ∧ Aside0 (spec_l8All.l0 kq a0 x3_1 x4_1 = some r) ∧ Aside0 (kq ≤ k) ∧ Aside0 (Kd.N (Kd.slice 49 k49) 22 w' w.heap.size (fun k_ => (w.heap.size ≤ k_)) v3 x3_1) ∧ Aside0 (Below w.heap.size w w'))
 case atStart => exact ⟨(y257), (1), sq, H', ⟨Nat.le_refl _⟩, ⟨by (with_reducible repeat (first | apply Kd.N_alloc | apply Kd.N_drewN | apply Kd.N_drew)); exact HO259.out⟩, ⟨bq⟩⟩
 case round =>
  clear H'; (try clear c2); (try clear p2); obtain ⟨x3_1, x4_1, rfl, HA, HK1, HO_3, HB⟩ := hrel
  cases gk with
  | zero => exact absurd HA.out (by simp [spec_l8All.l0])
  | succ k1 =>
   have H := HA.out; clear HA; simp only [spec_l8All.l0] at H
   by_cases c7 : x4_1 < a0
   ·rw [if_pos c7] at H
    have c7b0 := decide_eq_true c7; clear c7; obtain ⟨y260, hy260⟩ : ∃ y_ : List (List (S49)), y_ = (([] : List (List (S49)))) := ⟨_, rfl⟩
    replace H : (spec_l8All.l1 k1 a0 x3_1 x4_1 y260 0) = some r := by first | (rw [hy260]; with_reducible exact H) | (have H2_ := (Option.bind_some _ _).symm.trans H; rw [hy260]; with_reducible exact H2_) | (have H2_ := (Option.bind_some _ _).symm.trans H; with_reducible exact H2_) | with_reducible exact H | (rw [hy260]; exact H) | exact H
    have Ny260 := ak hy260; clear hy260; have H' := ak H; clear H
    go_wp2_with (first | ((with_reducible refine gate_dst (N := 18) rfl ?_); refine Kd.N_lit (Kd.slice 49 k49) _ 22 ?hg (N' := 18) ?hd (xs := ([] : List (List (S49)))) (inner := []) (ok := (fun k_ => (w.heap.size ≤ k_) ∧ some k_ ≠ (u3 : Value).ownBlock)) (okp := (fun k_ => (w.heap.size ≤ k_) ∧ some k_ ≠ (u3 : Value).ownBlock)) ?hr ?hp (fun _ hk => hk) ((show ∀ k_, wr.heap.size ≤ k_ → (fun k_ => (w.heap.size ≤ k_) ∧ some k_ ≠ (u3 : Value).ownBlock) k_ from fun k_ hk => ⟨(Nat.le_trans (below_size bq) hk), Kd.fresh' (Kd.N_lt (by (with_reducible repeat (first | apply Kd.N_alloc | apply Kd.N_drewN | apply Kd.N_drew)); exact HO_3.out)) k_ hk⟩) _ (Nat.le_refl _)) (Below.refl _ _) (Nat.le_refl _) (by simp) ?_; (case hd => rfl); (case hg => rfl); (case hr => first | (go_simp; done) | (go_simp; rfl)); (case hp => exact (Reps.none _ _)); intro v261 w8 ho9 hb hg_ hnew_; clear hg_ hnew_; (first | rw [← Ny260.out] at ho9 | (simp only [Int.reduceToNat] at ho9; rw [← Ny260.out] at ho9)); have n0_ := ak (Kd.N_elder' (by (with_reducible repeat (first | apply Kd.N_alloc | apply Kd.N_drewN | apply Kd.N_drew)); exact HO_3.out) (Kd.N_base ho9) hb); have n1_ := ak (Kd.N_lower ho9 (below_size bq)); have n2_ := ak (below_step bq hb); clear HO_3; clear HB; have HO_3 := n0_; have HO262 := n1_; have HB := n2_; clear n0_ n1_ n2_; clear hb ho9))
    (try simp only [Act.put, sA, sZ, sS])
    go_loopg [5, 6] k1 (fun kq v5 v6 w' => ∃ (x5_2 : List (List (S49))) (x6_2 : Int), v6 = .int .i64 x6_2 ∧ Aside0 (spec_l8All.l1 kq a0 x3_1 x4_1 x5_2 x6_2 = some r) ∧ Aside0 (kq ≤ k1) ∧ Aside0 (Kd.N (Kd.slice 49 k49) 22 w' w.heap.size (fun k_ => (w.heap.size ≤ k_) ∧ some k_ ≠ (v5 : Value).ownBlock) u3 x3_1) ∧ Aside0 (Kd.N (Kd.slice 49 k49) 22 w' w.heap.size (fun k_ => (w.heap.size ≤ k_) ∧ some k_ ≠ (u3 : Value).ownBlock) v5 x5_2) ∧ Aside0 (Below w.heap.size w w'))
    case atStart => exact ⟨(y260), (0), sq, H', ⟨Nat.le_refl _⟩, ⟨by (with_reducible repeat (first | apply Kd.N_alloc | apply Kd.N_drewN | apply Kd.N_drew)); exact HO_3.out⟩, ⟨by (with_reducible repeat (first | apply Kd.N_alloc | apply Kd.N_drewN | apply Kd.N_drew)); exact HO262.out⟩, ⟨bq⟩⟩
    case round =>
     clear H'; (try clear c2); (try clear p2); (try clear c7); (try clear c7b0); (try clear p2); obtain ⟨x5_2, x6_2, rfl, HA, HK2, HO_3, HO_5, HB⟩ := hrel
     cases gk with
     | zero => exact absurd HA.out (by simp [spec_l8All.l1])
     | succ k2 =>
      have H := HA.out; clear HA; simp only [spec_l8All.l1] at H
      by_cases c10 : x6_2 < (x3_1.length : Int)
      ·rw [if_pos c10] at H
       have c10b0 := decide_eq_true c10; clear c10
       by_cases c11 : 0 ≤ x6_2
       ·rw [if_pos c11] at H
        have c11b0 := decide_eq_true c11; clear c11; obtain ⟨t264, A120, H⟩ := Option.bind_eq_some_iff.mp H
        (try dsimp only at H)
        have A12 := ak A120; clear A120; have H' := ak H; clear H; obtain ⟨Ao13, co13, eo13⟩ := Kd.N_slice HO_3.out; subst eo13; have p263 : 0 ≤ (x6_2 : Int) := dq; have q263 : x6_2 < (x3_1.length : Int) := dq; obtain ⟨ad263, A263_0, c263_0, e263, hx263_0, hl263_0, hi263_0⟩ := at_L3 (Kd.N_reads' HO_3.out).2.2 x6_2 p263 q263; cases e263; obtain ⟨ce263, hce263, hMe263, hcc263⟩ := Kd.N_get HO_3.out [] x6_2 p263 (by first | exact q263 | exact dq | (have e_ := (Kd.N_reads' HO_3.out).1; omega)); obtain ⟨ua263_0, uc263_0, rfl, ul263_0, ge263_0⟩ := Kd.FK_slice_open hMe263; have hv263_0 := hcc263 0 _ rfl; rw [Nat.add_zero, show ((Kd.slice 49 k49)).sz = 1 from rfl, Nat.mul_one] at hv263_0; replace hv263_0 := Option.some.inj (hv263_0.symm.trans hx263_0)
        injection hv263_0 with hva_ hvn_ hvc_
        rw [hva_] at ge263_0; rw [hvc_] at ul263_0; have HL263_0 := ak (show Kd.V k49 49 _ w.heap.size _ _ (rd_L3 x3_1 x6_2) from Kd.V_mk ul263_0 ge263_0); clear hva_ hvn_ hvc_ ge263_0 ul263_0; clear hcc263 hce263; have HR263_0 := ak hi263_0; have HC263_0 := ak hl263_0; clear hi263_0 hl263_0; replace p263 := eq_true p263; replace q263 := eq_true q263
        go_wp2_with (first | ((with_reducible refine gate_callee (f := 90) rfl ?_); refine goesL_ (some 29) rfl rfl Try.func90 (by kernel_rfl) rfl #[.slice A263_0 (rd_L3 x3_1 x6_2).length c263_0] rfl aq ?_; (with_reducible refine (spec_l8Edge.calls k2 _ _ (rd_L3 x3_1 x6_2) t264 _ ?side1 ?side2 A12.out).mono ?_); (case side1 => exact cq (by repeat (first | (with_reducible exact HR263_0.out) | (with_reducible refine Kd.C_alloc ?_ _) | (with_reducible refine Kd.C_drewN ?_ _) | (with_reducible refine Kd.C_drew ?_) | exact HR263_0.out))); (case side2 => exact HC263_0.out); rintro e w14 ⟨v265, rfl, ho0, hb⟩; refine ⟨_, rfl, ?_⟩; have n0_ := ak (Kd.N_elder' (by (with_reducible repeat (first | apply Kd.N_alloc | apply Kd.N_drewN | apply Kd.N_drew)); exact HO_3.out) (Kd.R_base ho0) hb); have n1_ := ak (Kd.N_elder' (by (with_reducible repeat (first | apply Kd.N_alloc | apply Kd.N_drewN | apply Kd.N_drew)); exact HO_5.out) (Kd.R_base ho0) hb); have n2_ := ak (Kd.V_elder' (by (with_reducible repeat (first | apply Kd.V_alloc | apply Kd.V_drewN | apply Kd.V_drew)); exact HL263_0.out) (Kd.R_base ho0) hb); have n3_ := ak (Kd.R_lower (Kd.R_newM (M := fun k_ => (w.heap.size ≤ k_)) ho0 (below_size bq) (fun k_ h_ => h_)) (below_size bq)); have n4_ := ak (Kd.C_below (by repeat (first | (with_reducible exact HR263_0.out) | (with_reducible refine Kd.C_alloc ?_ _) | (with_reducible refine Kd.C_drewN ?_ _) | (with_reducible refine Kd.C_drew ?_) | exact HR263_0.out)) hb); have n5_ := ak (below_step bq hb); clear HO_3; clear HO_5; clear HL263_0; clear HR263_0; clear HB; have HO_3 := n0_; have HO_5 := n1_; have HL263_0 := n2_; have HO266 := n3_; have HR263_0 := n4_; have HB := n5_; clear n0_ n1_ n2_ n3_ n4_ n5_; (try clear hb); (try clear hb2); (try clear hk); (try clear hi); (try clear ho0)))
        (try simp only [Act.put, sA, sZ, sS])
        go_loopg [5, 8] k2 (fun kq v5 v8 w' => ∃ (x5_3 : List (List (S49))) (x8_3 : Int), v8 = .int .i64 x8_3 ∧ Aside0 (spec_l8All.l2 kq a0 x3_1 x4_1 x5_3 x6_2 t264 x8_3 = some r) ∧ Aside0 (kq ≤ k2) ∧ Aside0 (Kd.N (Kd.slice 49 k49) 22 w' w.heap.size (fun k_ => (w.heap.size ≤ k_) ∧ some k_ ≠ (v5 : Value).ownBlock ∧ some k_ ≠ (v265 : Value).ownBlock) (.slice (some ad263) x3_1.length co13) x3_1) ∧ Aside0 (Kd.N (Kd.slice 49 k49) 22 w' w.heap.size (fun k_ => (w.heap.size ≤ k_) ∧ some k_ ≠ ((.slice (some ad263) x3_1.length co13) : Value).ownBlock ∧ some k_ ≠ (v265 : Value).ownBlock) v5 x5_3) ∧ Aside0 (Kd.R k49 49 w' w.heap.size (fun k_ => (w.heap.size ≤ k_)) v265 t264) ∧ Aside0 (Below w.heap.size w w'))
        case atStart => exact ⟨(x5_2), (0), sq, H', ⟨Nat.le_refl _⟩, ⟨by (with_reducible repeat (first | apply Kd.N_alloc | apply Kd.N_drewN | apply Kd.N_drew)); exact Kd.N_mono HO_3.out (fun _ hk => ⟨hk.1.1, ⟨hk.1.2, hk.2⟩⟩)⟩, ⟨by (with_reducible repeat (first | apply Kd.N_alloc | apply Kd.N_drewN | apply Kd.N_drew)); exact Kd.N_mono HO_5.out (fun _ hk => ⟨hk.1.1, ⟨hk.1.2, hk.2⟩⟩)⟩, ⟨by (with_reducible repeat (first | apply Kd.R_alloc | apply Kd.R_drewN | apply Kd.R_drew)); exact Kd.R_mono HO266.out (fun _ hk => hk.1)⟩, ⟨bq⟩⟩
        case round =>
         clear H'; (try clear c1); (try clear c2); (try clear p2); (try clear q2); (try clear hx2); (try clear c7); (try clear c7b0); (try clear c9); (try clear c10); (try clear c10b0); (try clear c11); (try clear c11b0); (try clear hx263_0); (try clear p2); (try clear p263); (try clear q263); obtain ⟨x5_3, x8_3, rfl, HA, HK3, HO_3, HO_5, HO_7, HB⟩ := hrel
         cases gk with
         | zero => exact absurd HA.out (by simp [spec_l8All.l2])
         | succ k3 =>
          have H := HA.out; clear HA; simp only [spec_l8All.l2] at H
          by_cases c15 : x8_3 < (t264.length : Int)
          ·rw [if_pos c15] at H
           have c15b0 := decide_eq_true c15; clear c15
           by_cases c16 : 0 ≤ x6_2
           ·rw [if_pos c16] at H
            have c16b0 := decide_eq_true c16; clear c16
            by_cases c17 : x6_2 < (x3_1.length : Int)
            ·rw [if_pos c17] at H
             have c17b0 := decide_eq_true c17; clear c17
             by_cases c18 : 0 ≤ x8_3
             ·rw [if_pos c18] at H
              have c18b0 := decide_eq_true c18; clear c18; obtain ⟨t269, A190, H⟩ := Option.bind_eq_some_iff.mp H
              (try dsimp only at H)
              have A19 := ak A190; clear A190; obtain ⟨t272, A200, H⟩ := Option.bind_eq_some_iff.mp H
              (try dsimp only at H)
              have A20 := ak A200; clear A200; obtain ⟨t275, A210, H⟩ := Option.bind_eq_some_iff.mp H
              (try dsimp only at H)
              have A21 := ak A210; clear A210
              by_cases c22 : t275 = true
              ·subst c22
               rw [if_pos rfl] at H; have H' := ak H; clear H; obtain ⟨Ao23, co23, eo23⟩ := Kd.R_slice HO_7.out; subst eo23; (try go_wp2); have n0_ := ak (Kd.N_drew HO_3.out); have n1_ := ak (Kd.N_drew HO_5.out); have n2_ := ak (Kd.R_drew HO_7.out); have n3_ := ak (below_drew1 HB.out); clear HO_3; clear HO_5; clear HO_7; clear HB; have HO_3 := n0_; have HO_5 := n1_; have HO_7 := n2_; have HB := n3_; clear n0_ n1_ n2_ n3_; have p267 : 0 ≤ (x6_2 : Int) := dq; have q267 : x6_2 < (x3_1.length : Int) := dq; obtain ⟨ad267, A267_0, c267_0, e267, hx267_0, hl267_0, hi267_0⟩ := at_L3 (Kd.N_reads' HO_3.out).2.2 x6_2 p267 q267; obtain rfl : ad263 = ad267 := (by injection e267); obtain ⟨ce267, hce267, hMe267, hcc267⟩ := Kd.N_get HO_3.out [] x6_2 p267 (by first | exact q267 | exact dq | (have e_ := (Kd.N_reads' HO_3.out).1; omega)); obtain ⟨ua267_0, uc267_0, rfl, ul267_0, ge267_0⟩ := Kd.FK_slice_open hMe267; have hv267_0 := hcc267 0 _ rfl; rw [Nat.add_zero, show ((Kd.slice 49 k49)).sz = 1 from rfl, Nat.mul_one] at hv267_0; replace hv267_0 := Option.some.inj (hv267_0.symm.trans hx267_0)
               injection hv267_0 with hva_ hvn_ hvc_
               rw [hva_] at ge267_0; rw [hvc_] at ul267_0; have HL267_0 := ak (show Kd.V k49 49 _ w.heap.size _ _ (rd_L3 x3_1 x6_2) from Kd.V_mk ul267_0 ge267_0); clear hva_ hvn_ hvc_ ge267_0 ul267_0; clear hcc267 hce267; have HR267_0 := ak hi267_0; have HC267_0 := ak hl267_0; clear hi267_0 hl267_0; replace p267 := eq_true p267; replace q267 := eq_true q267; have p268 : 0 ≤ (x8_3 : Int) := dq; have q268 : x8_3 < (t264.length : Int) := dq; obtain ⟨ad268, e268, hx268_0, hx268_1⟩ := at_T49 (Kd.R_reads' HO_7.out).2.2 x8_3 p268 q268; cases e268; replace p268 := eq_true p268; replace q268 := eq_true q268; refine start_ (n := 11) (S := fun w' => w'.cell? (ad263.add (x6_2).toNat) = some (.slice A267_0 (rd_L3 x3_1 x6_2).length c267_0) ∧ w'.cell? (ad268.add ((x8_3).toNat * 2)) = some (.int .i64 ((rd_T49 t264 x8_3).f0)) ∧ w'.cell? ⟨(ad268.add ((x8_3).toNat * 2)).block, (ad268.add ((x8_3).toNat * 2)).off + 1, none⟩ = some (.int .i64 ((rd_T49 t264 x8_3).f1))) (ds := []) #[Z,Z,Z,Z,Z,Z,Z,Z,Z,Z,Z] (by kernel_rfl) rfl rfl ⟨hx267_0, hx268_0, hx268_1⟩ (fun hHeld => ?_); refine with_tabW spec_l8All.tab13 spec_l8All.bits13 (fun HT_ HW_ => ?_)
               generalize wr.drew = w24 at HO_3 HO_5 HO_7 HB HL267_0 HR267_0 hx267_0 hx268_0 hx268_1 hHeld ⊢
               refine pq_ (i := 0) (N := some 36) #[Y,Z,Z,Z,Z,Z,Z,Z,Z,Z,Z] HT_ ?_; refine pq_ (i := 1) (N := some 37) #[Y,Y,Z,Z,Z,Z,Z,Z,Z,Z,Z] HT_ ?_; refine pq_ (i := 2) (N := some 38) #[Y,Y,Y,Z,Z,Z,Z,Z,Z,Z,Z] HT_ ?_; refine pq_ (i := 4) (N := some 40) #[Y,Y,Y,Z,Y,Z,Z,Z,Z,Z,Z] HT_ ?_; refine pq_ (i := 5) (N := some 41) #[Y,Y,Y,Z,Y,Y,Z,Z,Z,Z,Z] HT_ ?_; refine pq_ (i := 6) (N := some 42) #[Y,Y,Y,Z,Y,Y,Y,Z,Z,Z,Z] HT_ ?_; refine tk_ (i := 3) (N := some 39) #[Y,Y,Y,Y,Y,Y,Y,Z,Z,Z,Z] HT_ HW_ hHeld ?_; refine tk_ (i := 7) (N := some 43) #[Y,Y,Y,Y,Y,Y,Y,Y,Z,Z,Z] HT_ HW_ hHeld ?_; refine one_ (i := 8) (N := some 44) #[Y,Y,Y,Y,Y,Y,Y,Y,Y,Z,Z] rfl rfl (one_of HT_.out (by kernel_rfl)) (by decide) (fun K hK => ?_); refine goes_ Try.func91 (by kernel_rfl) rfl #[.slice A267_0 (rd_L3 x3_1 x6_2).length c267_0, .agg #[.int .i64 ((rd_T49 t264 x8_3).f0), .int .i64 ((rd_T49 t264 x8_3).f1)]] (by rfl) rfl rfl aq ?_
               with_reducible refine (spec_l8Put.calls k3 _ _ (rd_L3 x3_1 x6_2) ((rd_T49 t264 x8_3).f0) ((rd_T49 t264 x8_3).f1) t269 _ ?side1 ?side2 A19.out).mono ?_
               (case side1 => exact cq (by repeat (first | (with_reducible exact HR267_0.out) | (with_reducible refine Kd.C_alloc ?_ _) | (with_reducible refine Kd.C_drewN ?_ _) | (with_reducible refine Kd.C_drew ?_) | exact HR267_0.out)))
               (case side2 => exact HC267_0.out)
               rintro e w25 ⟨v270, rfl, ho0, hb⟩
               have HS0_ := (hb.cell (World.block_lt_of_cell? _ _ (hHeld.1))).trans (hHeld.1); have HS1_ := (hb.cell (World.block_lt_of_cell? _ _ (hHeld.2.1))).trans (hHeld.2.1); have HS2_ := (hb.cell (World.block_lt_of_cell? _ _ (hHeld.2.2))).trans (hHeld.2.2); refine ⟨_, rfl, ?_⟩; have n0_ := ak (Kd.N_elder' (by (with_reducible repeat (first | apply Kd.N_alloc | apply Kd.N_drewN | apply Kd.N_drew)); exact HO_3.out) (Kd.R_base ho0) hb); have n1_ := ak (Kd.N_elder' (by (with_reducible repeat (first | apply Kd.N_alloc | apply Kd.N_drewN | apply Kd.N_drew)); exact HO_5.out) (Kd.R_base ho0) hb); have n2_ := ak (Kd.R_elder' (rq HO_7) (Kd.R_base ho0) hb); have n3_ := ak (Kd.V_elder' (by (with_reducible repeat (first | apply Kd.V_alloc | apply Kd.V_drewN | apply Kd.V_drew)); exact HL267_0.out) (Kd.R_base ho0) hb); have n4_ := ak (Kd.R_lower (Kd.R_new' (Kd.R_newM (M := fun k_ => (w.heap.size ≤ k_)) ho0 (below_size bq) (fun k_ h_ => h_)) (Kd.R_lt (rq HO_7))) (below_size bq)); have n5_ := ak (Kd.C_below (by repeat (first | (with_reducible exact HR267_0.out) | (with_reducible refine Kd.C_alloc ?_ _) | (with_reducible refine Kd.C_drewN ?_ _) | (with_reducible refine Kd.C_drew ?_) | exact HR267_0.out)) hb); have n6_ := ak (below_step bq hb); clear HO_3; clear HO_5; clear HO_7; clear HL267_0; clear HR267_0; clear HB; have HO_3 := n0_; have HO_5 := n1_; have HO_7 := n2_; have HL267_0 := n3_; have HO271 := n4_; have HR267_0 := n5_; have HB := n6_; clear n0_ n1_ n2_ n3_ n4_ n5_ n6_
               (try clear hb)
               (try clear hb2)
               (try clear hk)
               (try clear hi)
               (try clear ho0)
               obtain ⟨Ao26, co26, eo26⟩ := Kd.R_slice HO271.out
               (first | subst eo26 | (injection eo26 with f1_ f2_ f3_; have f4_ := f1_.symm; have f5_ := f3_.symm; clear f1_ f2_ f3_; subst f4_; subst f5_))
               refine hK.out _ _ ⟨HS0_, HS1_, HS2_⟩ (fun hHeld => ?_); clear hK K; refine norm_ (a' := ?_) ?_ ?_; rotate_left
               ·show Act.put _ (some 44) _ = _
                simp only [Act.put, sA, sZ, sS, i64_w, i32_w]
                rfl
               refine one_ (i := 9) (N := some 45) #[Y,Y,Y,Y,Y,Y,Y,Y,Y,Y,Z] rfl rfl (one_of HT_.out (by kernel_rfl)) (by decide) (fun K hK => ?_); refine goes_ Try.func68 (by kernel_rfl) rfl #[.slice Ao26 t269.length co26] (by rfl) rfl rfl aq ?_
               with_reducible refine (spec_l8Down.calls k3 _ _ t269 t272 _ ?side1 ?side2 A20.out).mono ?_
               (case side1 => exact cq (Kd.R_reads' HO271.out).2.2)
               (case side2 => exact (Kd.R_reads' HO271.out).2.1)
               rintro e w27 ⟨v273, rfl, ho0, hb⟩
               have HS0_ := (hb.cell (World.block_lt_of_cell? _ _ (hHeld.1))).trans (hHeld.1); have HS1_ := (hb.cell (World.block_lt_of_cell? _ _ (hHeld.2.1))).trans (hHeld.2.1); have HS2_ := (hb.cell (World.block_lt_of_cell? _ _ (hHeld.2.2))).trans (hHeld.2.2); refine ⟨_, rfl, ?_⟩; have n0_ := ak (Kd.N_elder' (by (with_reducible repeat (first | apply Kd.N_alloc | apply Kd.N_drewN | apply Kd.N_drew)); exact HO_3.out) (Kd.R_base ho0) hb); have n1_ := ak (Kd.N_elder' (by (with_reducible repeat (first | apply Kd.N_alloc | apply Kd.N_drewN | apply Kd.N_drew)); exact HO_5.out) (Kd.R_base ho0) hb); have n2_ := ak (Kd.R_elder' (rq HO_7) (Kd.R_base ho0) hb); have n3_ := ak (Kd.V_elder' (by (with_reducible repeat (first | apply Kd.V_alloc | apply Kd.V_drewN | apply Kd.V_drew)); exact HL267_0.out) (Kd.R_base ho0) hb); have n4_ := ak (Kd.R_elder' (rq HO271) (Kd.R_base ho0) hb); have n5_ := ak (Kd.R_lower (Kd.R_new' (Kd.R_new' (Kd.R_newM (M := fun k_ => (w.heap.size ≤ k_)) ho0 (below_size bq) (fun k_ h_ => h_)) (Kd.R_lt (rq HO_7))) (Kd.R_lt (rq HO271))) (below_size bq)); have n6_ := ak (Kd.C_below (by repeat (first | (with_reducible exact HR267_0.out) | (with_reducible refine Kd.C_alloc ?_ _) | (with_reducible refine Kd.C_drewN ?_ _) | (with_reducible refine Kd.C_drew ?_) | exact HR267_0.out)) hb); have n7_ := ak (below_step bq hb); clear HO_3; clear HO_5; clear HO_7; clear HL267_0; clear HO271; clear HR267_0; clear HB; have HO_3 := n0_; have HO_5 := n1_; have HO_7 := n2_; have HL267_0 := n3_; have HO271 := n4_; have HO274 := n5_; have HR267_0 := n6_; have HB := n7_; clear n0_ n1_ n2_ n3_ n4_ n5_ n6_ n7_
               (try clear hb)
               (try clear hb2)
               (try clear hk)
               (try clear hi)
               (try clear ho0)
               refine hK.out _ _ ⟨HS0_, HS1_, HS2_⟩ (fun hHeld => ?_); clear hK K; refine norm_ (a' := ?_) ?_ ?_; rotate_left
               ·show Act.put _ (some 45) _ = _
                simp only [Act.put, sA, sZ, sS, i64_w, i32_w]
                rfl
               refine pq_ (i := 10) (N := some 9) #[Y,Y,Y,Y,Y,Y,Y,Y,Y,Y,Y] HT_ ?_; refine done_ (done_of HT_.out (by kernel_rfl)) ?_; obtain ⟨Ao28, co28, eo28⟩ := Kd.N_slice HO_5.out; subst eo28; obtain ⟨Ao29, co29, eo29⟩ := Kd.R_slice HO274.out; subst eo29
               try go_wp2_with (first | ((with_reducible refine gate_callee (f := 113) rfl ?_); refine goesL_ (some 48) rfl rfl Try.func113 (by kernel_rfl) rfl #[.slice Ao28 x5_3.length co28, .slice Ao29 t272.length co29] rfl aq ?_; (with_reducible refine (spec_l8Found.calls k3 _ _ x5_3 _ _ t272 true _ ?side1 ?side2 ?side3 ?side4 A21.out).mono ?_); (case side1 => exact cq (Kd.N_reads' HO_5.out).2.2); (case side2 => exact (Kd.N_reads' HO_5.out).2.1); (case side3 => exact cq (Kd.R_reads' HO274.out).2.2); (case side4 => exact (Kd.R_reads' HO274.out).2.1); rintro e w' ⟨rfl, ⟨nd, rfl⟩⟩; refine ⟨_, rfl, ?_⟩))
               go_roundg k3
               case measure => have := HK1.out; have := HK2.out; have := HK3.out; omega
               case rel => exact ⟨(x5_3), (wrap64 (x8_3 + 1)), sq, H', ⟨by have := HK1.out; have := HK2.out; have := HK3.out; omega⟩, ⟨by (with_reducible repeat (first | apply Kd.N_alloc | apply Kd.N_drewN | apply Kd.N_drew)); exact Kd.N_mono HO_3.out (fun _ hk => ⟨hk.1.1.1, ⟨hk.1.1.2.1, hk.1.1.2.2⟩⟩)⟩, ⟨by (with_reducible repeat (first | apply Kd.N_alloc | apply Kd.N_drewN | apply Kd.N_drew)); exact Kd.N_mono HO_5.out (fun _ hk => ⟨hk.1.1.1, ⟨hk.1.1.2.1, hk.1.1.2.2⟩⟩)⟩, ⟨by (with_reducible repeat (first | apply Kd.R_alloc | apply Kd.R_drewN | apply Kd.R_drew)); exact Kd.R_mono HO_7.out (fun _ hk => hk.1.1)⟩, ⟨bq⟩⟩
              ·replace c22 := Bool.eq_false_iff.mpr c22
               subst c22; rw [if_neg (show ¬ (false = true) by decide)] at H
               by_cases c30 : x5_3.length < 5864062014805
               ·rw [if_pos c30] at H
                have LMc30 := ak c30; clear c30; obtain ⟨y276, hy276⟩ : ∃ y_ : List (List (S49)), y_ = (x5_3 ++ [t272]) := ⟨_, rfl⟩
                replace H : (spec_l8All.l2 k3 a0 x3_1 x4_1 y276 x6_2 t264 (wrap64 (x8_3 + 1))) = some r := by first | (rw [hy276]; with_reducible exact H) | (have H2_ := (Option.bind_some _ _).symm.trans H; rw [hy276]; with_reducible exact H2_) | (have H2_ := (Option.bind_some _ _).symm.trans H; with_reducible exact H2_) | with_reducible exact H | (rw [hy276]; exact H) | exact H
                have Ny276 := ak hy276; clear hy276; have H' := ak H; clear H; obtain ⟨Ao31, co31, eo31⟩ := Kd.R_slice HO_7.out; subst eo31; (try go_wp2); have n0_ := ak (Kd.N_drew HO_3.out); have n1_ := ak (Kd.N_drew HO_5.out); have n2_ := ak (Kd.R_drew HO_7.out); have n3_ := ak (below_drew1 HB.out); clear HO_3; clear HO_5; clear HO_7; clear HB; have HO_3 := n0_; have HO_5 := n1_; have HO_7 := n2_; have HB := n3_; clear n0_ n1_ n2_ n3_; have p267 : 0 ≤ (x6_2 : Int) := dq; have q267 : x6_2 < (x3_1.length : Int) := dq; obtain ⟨ad267, A267_0, c267_0, e267, hx267_0, hl267_0, hi267_0⟩ := at_L3 (Kd.N_reads' HO_3.out).2.2 x6_2 p267 q267; obtain rfl : ad263 = ad267 := (by injection e267); obtain ⟨ce267, hce267, hMe267, hcc267⟩ := Kd.N_get HO_3.out [] x6_2 p267 (by first | exact q267 | exact dq | (have e_ := (Kd.N_reads' HO_3.out).1; omega)); obtain ⟨ua267_0, uc267_0, rfl, ul267_0, ge267_0⟩ := Kd.FK_slice_open hMe267; have hv267_0 := hcc267 0 _ rfl; rw [Nat.add_zero, show ((Kd.slice 49 k49)).sz = 1 from rfl, Nat.mul_one] at hv267_0; replace hv267_0 := Option.some.inj (hv267_0.symm.trans hx267_0)
                injection hv267_0 with hva_ hvn_ hvc_
                rw [hva_] at ge267_0; rw [hvc_] at ul267_0; have HL267_0 := ak (show Kd.V k49 49 _ w.heap.size _ _ (rd_L3 x3_1 x6_2) from Kd.V_mk ul267_0 ge267_0); clear hva_ hvn_ hvc_ ge267_0 ul267_0; clear hcc267 hce267; have HR267_0 := ak hi267_0; have HC267_0 := ak hl267_0; clear hi267_0 hl267_0; replace p267 := eq_true p267; replace q267 := eq_true q267; have p268 : 0 ≤ (x8_3 : Int) := dq; have q268 : x8_3 < (t264.length : Int) := dq; obtain ⟨ad268, e268, hx268_0, hx268_1⟩ := at_T49 (Kd.R_reads' HO_7.out).2.2 x8_3 p268 q268; cases e268; replace p268 := eq_true p268; replace q268 := eq_true q268; refine start_ (n := 11) (S := fun w' => w'.cell? (ad263.add (x6_2).toNat) = some (.slice A267_0 (rd_L3 x3_1 x6_2).length c267_0) ∧ w'.cell? (ad268.add ((x8_3).toNat * 2)) = some (.int .i64 ((rd_T49 t264 x8_3).f0)) ∧ w'.cell? ⟨(ad268.add ((x8_3).toNat * 2)).block, (ad268.add ((x8_3).toNat * 2)).off + 1, none⟩ = some (.int .i64 ((rd_T49 t264 x8_3).f1))) (ds := []) #[Z,Z,Z,Z,Z,Z,Z,Z,Z,Z,Z] (by kernel_rfl) rfl rfl ⟨hx267_0, hx268_0, hx268_1⟩ (fun hHeld => ?_); refine with_tabW spec_l8All.tab13 spec_l8All.bits13 (fun HT_ HW_ => ?_)
                generalize wr.drew = w32 at HO_3 HO_5 HO_7 HB HL267_0 HR267_0 hx267_0 hx268_0 hx268_1 hHeld ⊢
                refine pq_ (i := 0) (N := some 36) #[Y,Z,Z,Z,Z,Z,Z,Z,Z,Z,Z] HT_ ?_; refine pq_ (i := 1) (N := some 37) #[Y,Y,Z,Z,Z,Z,Z,Z,Z,Z,Z] HT_ ?_; refine pq_ (i := 2) (N := some 38) #[Y,Y,Y,Z,Z,Z,Z,Z,Z,Z,Z] HT_ ?_; refine pq_ (i := 4) (N := some 40) #[Y,Y,Y,Z,Y,Z,Z,Z,Z,Z,Z] HT_ ?_; refine pq_ (i := 5) (N := some 41) #[Y,Y,Y,Z,Y,Y,Z,Z,Z,Z,Z] HT_ ?_; refine pq_ (i := 6) (N := some 42) #[Y,Y,Y,Z,Y,Y,Y,Z,Z,Z,Z] HT_ ?_; refine tk_ (i := 3) (N := some 39) #[Y,Y,Y,Y,Y,Y,Y,Z,Z,Z,Z] HT_ HW_ hHeld ?_; refine tk_ (i := 7) (N := some 43) #[Y,Y,Y,Y,Y,Y,Y,Y,Z,Z,Z] HT_ HW_ hHeld ?_; refine one_ (i := 8) (N := some 44) #[Y,Y,Y,Y,Y,Y,Y,Y,Y,Z,Z] rfl rfl (one_of HT_.out (by kernel_rfl)) (by decide) (fun K hK => ?_); refine goes_ Try.func91 (by kernel_rfl) rfl #[.slice A267_0 (rd_L3 x3_1 x6_2).length c267_0, .agg #[.int .i64 ((rd_T49 t264 x8_3).f0), .int .i64 ((rd_T49 t264 x8_3).f1)]] (by rfl) rfl rfl aq ?_
                with_reducible refine (spec_l8Put.calls k3 _ _ (rd_L3 x3_1 x6_2) ((rd_T49 t264 x8_3).f0) ((rd_T49 t264 x8_3).f1) t269 _ ?side1 ?side2 A19.out).mono ?_
                (case side1 => exact cq (by repeat (first | (with_reducible exact HR267_0.out) | (with_reducible refine Kd.C_alloc ?_ _) | (with_reducible refine Kd.C_drewN ?_ _) | (with_reducible refine Kd.C_drew ?_) | exact HR267_0.out)))
                (case side2 => exact HC267_0.out)
                rintro e w33 ⟨v270, rfl, ho0, hb⟩
                have HS0_ := (hb.cell (World.block_lt_of_cell? _ _ (hHeld.1))).trans (hHeld.1); have HS1_ := (hb.cell (World.block_lt_of_cell? _ _ (hHeld.2.1))).trans (hHeld.2.1); have HS2_ := (hb.cell (World.block_lt_of_cell? _ _ (hHeld.2.2))).trans (hHeld.2.2); refine ⟨_, rfl, ?_⟩; have n0_ := ak (Kd.N_elder' (by (with_reducible repeat (first | apply Kd.N_alloc | apply Kd.N_drewN | apply Kd.N_drew)); exact HO_3.out) (Kd.R_base ho0) hb); have n1_ := ak (Kd.N_elder' (by (with_reducible repeat (first | apply Kd.N_alloc | apply Kd.N_drewN | apply Kd.N_drew)); exact HO_5.out) (Kd.R_base ho0) hb); have n2_ := ak (Kd.R_elder' (rq HO_7) (Kd.R_base ho0) hb); have n3_ := ak (Kd.V_elder' (by (with_reducible repeat (first | apply Kd.V_alloc | apply Kd.V_drewN | apply Kd.V_drew)); exact HL267_0.out) (Kd.R_base ho0) hb); have n4_ := ak (Kd.R_lower (Kd.R_new' (Kd.R_newM (M := fun k_ => (w.heap.size ≤ k_)) ho0 (below_size bq) (fun k_ h_ => h_)) (Kd.R_lt (rq HO_7))) (below_size bq)); have n5_ := ak (Kd.C_below (by repeat (first | (with_reducible exact HR267_0.out) | (with_reducible refine Kd.C_alloc ?_ _) | (with_reducible refine Kd.C_drewN ?_ _) | (with_reducible refine Kd.C_drew ?_) | exact HR267_0.out)) hb); have n6_ := ak (below_step bq hb); clear HO_3; clear HO_5; clear HO_7; clear HL267_0; clear HR267_0; clear HB; have HO_3 := n0_; have HO_5 := n1_; have HO_7 := n2_; have HL267_0 := n3_; have HO271 := n4_; have HR267_0 := n5_; have HB := n6_; clear n0_ n1_ n2_ n3_ n4_ n5_ n6_
                (try clear hb)
                (try clear hb2)
                (try clear hk)
                (try clear hi)
                (try clear ho0)
                obtain ⟨Ao34, co34, eo34⟩ := Kd.R_slice HO271.out
                (first | subst eo34 | (injection eo34 with f1_ f2_ f3_; have f4_ := f1_.symm; have f5_ := f3_.symm; clear f1_ f2_ f3_; subst f4_; subst f5_))
                refine hK.out _ _ ⟨HS0_, HS1_, HS2_⟩ (fun hHeld => ?_); clear hK K; refine norm_ (a' := ?_) ?_ ?_; rotate_left
                ·show Act.put _ (some 44) _ = _
                 simp only [Act.put, sA, sZ, sS, i64_w, i32_w]
                 rfl
                refine one_ (i := 9) (N := some 45) #[Y,Y,Y,Y,Y,Y,Y,Y,Y,Y,Z] rfl rfl (one_of HT_.out (by kernel_rfl)) (by decide) (fun K hK => ?_); refine goes_ Try.func68 (by kernel_rfl) rfl #[.slice Ao34 t269.length co34] (by rfl) rfl rfl aq ?_
                with_reducible refine (spec_l8Down.calls k3 _ _ t269 t272 _ ?side1 ?side2 A20.out).mono ?_
                (case side1 => exact cq (Kd.R_reads' HO271.out).2.2)
                (case side2 => exact (Kd.R_reads' HO271.out).2.1)
                rintro e w35 ⟨v273, rfl, ho0, hb⟩
                have HS0_ := (hb.cell (World.block_lt_of_cell? _ _ (hHeld.1))).trans (hHeld.1); have HS1_ := (hb.cell (World.block_lt_of_cell? _ _ (hHeld.2.1))).trans (hHeld.2.1); have HS2_ := (hb.cell (World.block_lt_of_cell? _ _ (hHeld.2.2))).trans (hHeld.2.2); refine ⟨_, rfl, ?_⟩; have n0_ := ak (Kd.N_elder' (by (with_reducible repeat (first | apply Kd.N_alloc | apply Kd.N_drewN | apply Kd.N_drew)); exact HO_3.out) (Kd.R_base ho0) hb); have n1_ := ak (Kd.N_elder' (by (with_reducible repeat (first | apply Kd.N_alloc | apply Kd.N_drewN | apply Kd.N_drew)); exact HO_5.out) (Kd.R_base ho0) hb); have n2_ := ak (Kd.R_elder' (rq HO_7) (Kd.R_base ho0) hb); have n3_ := ak (Kd.V_elder' (by (with_reducible repeat (first | apply Kd.V_alloc | apply Kd.V_drewN | apply Kd.V_drew)); exact HL267_0.out) (Kd.R_base ho0) hb); have n4_ := ak (Kd.R_elder' (rq HO271) (Kd.R_base ho0) hb); have n5_ := ak (Kd.R_lower (Kd.R_new' (Kd.R_new' (Kd.R_newM (M := fun k_ => (w.heap.size ≤ k_)) ho0 (below_size bq) (fun k_ h_ => h_)) (Kd.R_lt (rq HO_7))) (Kd.R_lt (rq HO271))) (below_size bq)); have n6_ := ak (Kd.C_below (by repeat (first | (with_reducible exact HR267_0.out) | (with_reducible refine Kd.C_alloc ?_ _) | (with_reducible refine Kd.C_drewN ?_ _) | (with_reducible refine Kd.C_drew ?_) | exact HR267_0.out)) hb); have n7_ := ak (below_step bq hb); clear HO_3; clear HO_5; clear HO_7; clear HL267_0; clear HO271; clear HR267_0; clear HB; have HO_3 := n0_; have HO_5 := n1_; have HO_7 := n2_; have HL267_0 := n3_; have HO271 := n4_; have HO274 := n5_; have HR267_0 := n6_; have HB := n7_; clear n0_ n1_ n2_ n3_ n4_ n5_ n6_ n7_
                (try clear hb)
                (try clear hb2)
                (try clear hk)
                (try clear hi)
                (try clear ho0)
                refine hK.out _ _ ⟨HS0_, HS1_, HS2_⟩ (fun hHeld => ?_); clear hK K; refine norm_ (a' := ?_) ?_ ?_; rotate_left
                ·show Act.put _ (some 45) _ = _
                 simp only [Act.put, sA, sZ, sS, i64_w, i32_w]
                 rfl
                refine pq_ (i := 10) (N := some 9) #[Y,Y,Y,Y,Y,Y,Y,Y,Y,Y,Y] HT_ ?_; refine done_ (done_of HT_.out (by kernel_rfl)) ?_; obtain ⟨Ao36, co36, eo36⟩ := Kd.N_slice HO_5.out; subst eo36; obtain ⟨Ao37, co37, eo37⟩ := Kd.R_slice HO274.out; subst eo37
                try go_wp2_with (first | ((with_reducible refine gate_callee (f := 113) rfl ?_); refine goesL_ (some 48) rfl rfl Try.func113 (by kernel_rfl) rfl #[.slice Ao36 x5_3.length co36, .slice Ao37 t272.length co37] rfl aq ?_; (with_reducible refine (spec_l8Found.calls k3 _ _ x5_3 _ _ t272 false _ ?side1 ?side2 ?side3 ?side4 A21.out).mono ?_); (case side1 => exact cq (Kd.N_reads' HO_5.out).2.2); (case side2 => exact (Kd.N_reads' HO_5.out).2.1); (case side3 => exact cq (Kd.R_reads' HO274.out).2.2); (case side4 => exact (Kd.R_reads' HO274.out).2.1); rintro e w' ⟨rfl, ⟨nd, rfl⟩⟩; refine ⟨_, rfl, ?_⟩) | ((with_reducible refine gate_builtin (b := .append) (xs := #[.tmp 50, .tmp 52]) rfl ?_); at_builtin; refine Kd.N_append (Kd.slice 49 k49) (w0 := w) w.heap.size rfl (.tmp 50) (.tmp 52) 68 22 (.slice none 0 0) 24 rfl Try.underlying68 info22 rfl (by decide) (by omega) (.slice Ao36 x5_3.length co36) x5_3 t272 [.slice Ao37 t272.length co37] (fun k_ => (w.heap.size ≤ k_) ∧ some k_ ≠ (.slice (some ad263) x3_1.length co13 : Value).ownBlock ∧ some k_ ≠ (.slice (some ad268) t264.length co31 : Value).ownBlock ∧ some k_ ≠ (.slice Ao34 t269.length co34 : Value).ownBlock) (fun k_ => ((fun k_ => (w.heap.size ≤ k_) ∧ some k_ ≠ (.slice (some ad263) x3_1.length co13 : Value).ownBlock ∧ some k_ ≠ (.slice (some ad268) t264.length co31 : Value).ownBlock ∧ some k_ ≠ (.slice Ao34 t269.length co34 : Value).ownBlock)) k_ ∧ some k_ ≠ (.slice Ao36 x5_3.length co36 : Value).ownBlock) rfl rfl ?aP (fun _ hk => hk) ?aF ?aO ?aB ?aS ?aL ?_; (case aP => exact (Kd.FK_slice_mk (Kd.R_reads' (Kd.R_mono (ok' := (fun k_ => ((fun k_ => (w.heap.size ≤ k_) ∧ some k_ ≠ (.slice (some ad263) x3_1.length co13 : Value).ownBlock ∧ some k_ ≠ (.slice (some ad268) t264.length co31 : Value).ownBlock ∧ some k_ ≠ (.slice Ao34 t269.length co34 : Value).ownBlock)) k_ ∧ some k_ ≠ (.slice Ao36 x5_3.length co36 : Value).ownBlock)) (Kd.R_apart' (Kd.R_apart' (HO274.out) (Kd.N_typed HO_3.out) (by decide)) (Kd.N_typed HO_5.out) (by decide)) (fun k_ hk => ⟨⟨hk.1.1.1.1.1, ⟨hk.1.2, ⟨hk.1.1.1.2, hk.1.1.2⟩⟩⟩, hk.2⟩))).2.1 (Kd.R_F (Kd.R_mono (ok' := (fun k_ => ((fun k_ => (w.heap.size ≤ k_) ∧ some k_ ≠ (.slice (some ad263) x3_1.length co13 : Value).ownBlock ∧ some k_ ≠ (.slice (some ad268) t264.length co31 : Value).ownBlock ∧ some k_ ≠ (.slice Ao34 t269.length co34 : Value).ownBlock)) k_ ∧ some k_ ≠ (.slice Ao36 x5_3.length co36 : Value).ownBlock)) (Kd.R_apart' (Kd.R_apart' (HO274.out) (Kd.N_typed HO_3.out) (by decide)) (Kd.N_typed HO_5.out) (by decide)) (fun k_ hk => ⟨⟨hk.1.1.1.1.1, ⟨hk.1.2, ⟨hk.1.1.1.2, hk.1.1.2⟩⟩⟩, hk.2⟩))))); (case aB => exact bq); (case aF => exact (fun k_ hk => ⟨(Nat.le_trans (below_size bq) hk), Kd.fresh' (Kd.N_lt (by (with_reducible repeat (first | apply Kd.N_alloc | apply Kd.N_drewN | apply Kd.N_drew)); exact HO_3.out)) k_ hk, Kd.fresh' (Kd.R_lt (rq HO_7)) k_ hk, Kd.fresh' (Kd.R_lt (rq HO271)) k_ hk⟩)); (case aO => exact (by (with_reducible repeat (first | apply Kd.N_alloc | apply Kd.N_drewN | apply Kd.N_drew)); exact Kd.N_mono HO_5.out (fun _ hk => ⟨hk.1.1.1, ⟨hk.1.1.2.1, ⟨hk.1.1.2.2, hk.1.2⟩⟩⟩))); (case aS => exact (below_size bq)); (case aL => have := LMc30.out; omega); intro v277 w38 ho hb hg hat; rw [← Ny276.out] at ho; have n0_ := ak (Kd.N_afterv (ok := (fun k_ => (w.heap.size ≤ k_) ∧ some k_ ≠ (.slice (some ad268) t264.length co31 : Value).ownBlock ∧ some k_ ≠ (.slice Ao34 t269.length co34 : Value).ownBlock ∧ some k_ ≠ (.slice Ao37 t272.length co37 : Value).ownBlock)) (by (with_reducible repeat (first | apply Kd.N_alloc | apply Kd.N_drewN | apply Kd.N_drew)); exact Kd.N_mono HO_3.out (fun _ hk => ⟨⟨hk.1.1.1, ⟨hk.1.1.2.2, ⟨hk.1.2, hk.2⟩⟩⟩, hk.1.1.2.1⟩)) hg hat); have n1_ := ak (Kd.R_over' (rq HO_7) (Kd.N_typed (by (with_reducible repeat (first | apply Kd.N_alloc | apply Kd.N_drewN | apply Kd.N_drew)); exact HO_5.out)) (by decide) hg); have n2_ := ak (Kd.V_afterv (ok := (fun k_ => (w.heap.size ≤ k_) ∧ some k_ ≠ (.slice (some ad263) x3_1.length co13 : Value).ownBlock ∧ some k_ ≠ (.slice (some ad268) t264.length co31 : Value).ownBlock ∧ some k_ ≠ (.slice Ao34 t269.length co34 : Value).ownBlock ∧ some k_ ≠ (.slice Ao37 t272.length co37 : Value).ownBlock)) (by (with_reducible repeat (first | apply Kd.V_alloc | apply Kd.V_drewN | apply Kd.V_drew)); exact Kd.V_mono HL267_0.out (fun _ hk => ⟨⟨hk.1.1.1.1, ⟨hk.1.1.2, ⟨hk.1.1.1.2.2, ⟨hk.1.2, hk.2⟩⟩⟩⟩, hk.1.1.1.2.1⟩)) hg hat); have n3_ := ak (Kd.R_over' (rq HO271) (Kd.N_typed (by (with_reducible repeat (first | apply Kd.N_alloc | apply Kd.N_drewN | apply Kd.N_drew)); exact HO_5.out)) (by decide) hg); have n4_ := ak (hb); have n5_ := ak (ho); clear HO_3; clear HO_7; clear HL267_0; clear HO271; clear HB; clear HO_5; clear HO274; have HO_3 := n0_; have HO_7 := n1_; have HL267_0 := n2_; have HO271 := n3_; have HB := n4_; have HO278 := n5_; clear n0_ n1_ n2_ n3_ n4_ n5_; clear ho hb hg hat))
                go_roundg k3
                case measure => have := HK1.out; have := HK2.out; have := HK3.out; omega
                case rel => exact ⟨(y276), (wrap64 (x8_3 + 1)), sq, H', ⟨by have := HK1.out; have := HK2.out; have := HK3.out; omega⟩, ⟨by (with_reducible repeat (first | apply Kd.N_alloc | apply Kd.N_drewN | apply Kd.N_drew)); exact Kd.N_mono HO_3.out (fun _ hk => ⟨hk.1.1, ⟨hk.2, hk.1.2.1⟩⟩)⟩, ⟨by (with_reducible repeat (first | apply Kd.N_alloc | apply Kd.N_drewN | apply Kd.N_drew)); exact Kd.N_mono HO278.out (fun _ hk => ⟨hk.1, ⟨hk.2.1, hk.2.2.1⟩⟩)⟩, ⟨by (with_reducible repeat (first | apply Kd.R_alloc | apply Kd.R_drewN | apply Kd.R_drew)); exact Kd.R_mono HO_7.out (fun _ hk => hk.1.1)⟩, ⟨bq⟩⟩
               ·rw [if_neg c30] at H
                exact absurd H (by simp)
             ·rw [if_neg c18] at H
              exact absurd H (by simp)
            ·rw [if_neg c17] at H
             exact absurd H (by simp)
           ·rw [if_neg c16] at H
            exact absurd H (by simp)
          ·rw [if_neg c15] at H
           have c15b0 := decide_eq_false c15; clear c15; have H' := ak H; clear H; obtain ⟨Ao39, co39, eo39⟩ := Kd.R_slice HO_7.out; subst eo39; go_wp2; go_roundg k3
           case measure => have := HK1.out; have := HK2.out; have := HK3.out; omega
           case rel => exact ⟨(x5_3), (wrap64 (x6_2 + 1)), sq, H', ⟨by have := HK1.out; have := HK2.out; have := HK3.out; omega⟩, ⟨by (with_reducible repeat (first | apply Kd.N_alloc | apply Kd.N_drewN | apply Kd.N_drew)); exact Kd.N_mono HO_3.out (fun _ hk => ⟨hk.1, hk.2.1⟩)⟩, ⟨by (with_reducible repeat (first | apply Kd.N_alloc | apply Kd.N_drewN | apply Kd.N_drew)); exact Kd.N_mono HO_5.out (fun _ hk => ⟨hk.1, hk.2.1⟩)⟩, ⟨bq⟩⟩
       ·rw [if_neg c11] at H
        exact absurd H (by simp)
      ·rw [if_neg c10] at H
       have c10b0 := decide_eq_false c10; clear c10; have H' := ak H; clear H; obtain ⟨Ao40, co40, eo40⟩ := Kd.N_slice HO_3.out; subst eo40; go_wp2; go_roundg k2
       case measure => have := HK1.out; have := HK2.out; omega
       case rel => exact ⟨(x5_2), (wrap64 (x4_1 + 1)), sq, H', ⟨by have := HK1.out; have := HK2.out; omega⟩, ⟨by (with_reducible repeat (first | apply Kd.N_alloc | apply Kd.N_drewN | apply Kd.N_drew)); exact Kd.N_mono HO_5.out (fun _ hk => hk.1)⟩, ⟨bq⟩⟩
   ·rw [if_neg c7] at H
    have c7b0 := decide_eq_false c7; clear c7; obtain rfl := Option.some.inj H; go_wp2; go_ret; exact ⟨_, eq_, by (with_reducible repeat (first | apply Kd.N_alloc | apply Kd.N_drewN | apply Kd.N_drew)); exact HO_3.out, bq⟩

end Go.Proofs.Ytckhmeadflafaaa.XCb
