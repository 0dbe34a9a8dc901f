/- Functions of the program as plain Lean functions, each with the proof that the machine's call does what it says: written by a program of this session out of the translation. -/
import Derived.Test.YtckhmeadflafaaaXFbx0
import Derived.Test.YtckhmeadflafaaaXFbx6
import Derived.Test.YtckhmeadflafaaaXFbx12
import Derived.Test.YtckhmeadflafaaaXFbx14
namespace Go.Proofs.Ytckhmeadflafaaa.XFb
open Go.RowKit Go.Proofs.YtckhmeadflafaaaW.PrintWords Go.Proofs.YtckhmeadflafaaaW.PrintLast Go.Proofs.YtckhmeadflafaaaW.PrintMore
attribute [local go_sem] max2_int min2_int max_two min_two max_three min_three max_four min_four   -- for this text's walks alone
set_option linter.unusedVariables false
set_option linter.unusedSimpArgs false

/-! ### spec_PutDown: function 53 -/
def spec_PutDown.l0 : Nat → List (S49) → Int → Option ((List (S49)) × Bool)
 | 0, _, _ => none
 | k + 1, x0, x4 => if x4 < (x0.length : Int) then (if 0 ≤ x4 then ((spec_l1In.f ((rd_T49 x0 x4).f0) (-60) 60).bind fun t579 => (if t579 = true then ((spec_l1In.f ((rd_T49 x0 x4).f1) (-60) 60).bind fun t581 => (if t581 = true then (spec_PutDown.l0 k x0 (wrap64 (x4 + 1))) else (some ((([] : List (S49))), false)))) else (some ((([] : List (S49))), false)))) else (none)) else ((spec_l8Down.f k x0).bind fun t588 => ((spec_l8Body.f k t588).bind fun t591 => (if t591 = true then (some (t588, true)) else (some ((([] : List (S49))), false)))))
def spec_PutDown.f (k : Nat) (l0 : List (S49)) : Option ((List (S49)) × Bool) := (spec_l1In.f (l0.length : Int) 1 12).bind fun t574 => (if t574 = true then (spec_PutDown.l0 k l0 0) else (some ((([] : List (S49))), false)))
theorem spec_PutDown.mono_l : ∀ k, (∀ y0 y1, LeO (spec_PutDown.l0 k y0 y1) (spec_PutDown.l0 (k + 1) y0 y1))
 | 0 => fun _ _ r h => by simp [spec_PutDown.l0] at h
 | k + 1 => by
  have ih0 := spec_PutDown.mono_l k
  ·intro y0 y1
   unfold spec_PutDown.l0
   repeat' first
   | (with_reducible exact ih0 _ _)
   | (with_reducible exact spec_l8Body.mono _ _)
   | (with_reducible exact spec_l8Down.mono _ _)
   | (with_reducible exact LeO.refl _)
   | (with_reducible exact LeO.none _)
   | (with_reducible refine LeO.ite ?_ ?_)
   | (with_reducible refine LeO.bind ?_ (fun _ => ?_))
theorem spec_PutDown.mono : ∀ a0 k, LeO (spec_PutDown.f k a0) (spec_PutDown.f (k + 1) a0) := by
 intro a0 k; have ih0 := spec_PutDown.mono_l k
 unfold spec_PutDown.f
 repeat' first
   | (with_reducible exact ih0 _ _)
   | (with_reducible exact spec_l8Body.mono _ _)
   | (with_reducible exact spec_l8Down.mono _ _)
   | (with_reducible exact LeO.refl _)
   | (with_reducible exact LeO.none _)
   | (with_reducible refine LeO.ite ?_ ?_)
   | (with_reducible refine LeO.bind ?_ (fun _ => ?_))
set_option maxHeartbeats 8000000 in
set_option maxRecDepth 100000 in
theorem spec_PutDown.calls (k : Nat) (A0 : Option Addr) (c0 : Nat) (l0 : List (S49)) (r1 : List (S49)) (r2 : Bool) (w : World) (hr0 : Kd.C k49 w A0 l0.length l0) (hc0 : l0.length ≤ c0) (h : spec_PutDown.f k l0 = some (r1, r2)) :
  Calls Try.prog 53 #[.slice A0 l0.length c0] w fun e w' => ∃ v0_ : Value, e = .returned (.tuple #[v0_, .bool r2]) ∧ Kd.R k49 49 w' w.heap.size (fun _ => True) v0_ r1 ∧ Below w.heap.size w w' := by
 have HR0 := ak hr0; have HC0 := ak hc0; clear hr0 hc0; have HB := ak (Below.refl w.heap.size w); have H : ((spec_l1In.f (l0.length : Int) 1 12).bind fun t574 => (if t574 = true then (spec_PutDown.l0 k l0 0) else (some ((([] : List (S49))), false)))) = some (r1, r2) := h; clear h; obtain ⟨t574, A20, H⟩ := Option.bind_eq_some_iff.mp H
 have A2 := ak A20; clear A20
 by_cases c3 : t574 = true
 ·subst c3
  rw [if_pos rfl] at H; have H' := ak H; clear H
  go_enter Try.func53, Try.ntmps53
  go_wp2_with (((with_reducible refine gate_callee (f := 60) rfl ?_); refine goesL_ (some 8) rfl rfl Try.func60 (by kernel_rfl) rfl #[.int .i64 (l0.length : Int), .int .i64 1, .int .i64 12] rfl aq ?_; (with_reducible refine (spec_l1In.calls (l0.length : Int) 1 12 true _ A2.out).mono ?_); rintro e w' ⟨rfl, ⟨nd, rfl⟩⟩; refine ⟨_, rfl, ?_⟩))
  go_loopg [4] k (fun kq v4 w' => ∃ (x4_1 : Int), v4 = .int .i64 x4_1 ∧ Aside0 (spec_PutDown.l0 kq l0 x4_1 = some (r1, r2)) ∧ Aside0 (kq ≤ k) ∧ Aside0 (Below w.heap.size w w'))
  case atStart => exact ⟨(0), sq, H', ⟨Nat.le_refl _⟩, ⟨bq⟩⟩
  case round =>
   clear H'; obtain ⟨x4_1, rfl, HA, HK1, HB⟩ := hrel
   cases gk with
   | zero => exact absurd HA.out (by simp [spec_PutDown.l0])
   | succ k1 =>
    have H := HA.out; clear HA; simp only [spec_PutDown.l0] at H
    by_cases c4 : x4_1 < (l0.length : Int)
    ·rw [if_pos c4] at H
     have c4b0 := decide_eq_true c4; clear c4
     by_cases c5 : 0 ≤ x4_1
     ·rw [if_pos c5] at H
      have c5b0 := decide_eq_true c5; clear c5; obtain ⟨t579, A60, H⟩ := Option.bind_eq_some_iff.mp H
      have A6 := ak A60; clear A60
      by_cases c7 : t579 = true
      ·subst c7
       rw [if_pos rfl] at H; obtain ⟨t581, A80, H⟩ := Option.bind_eq_some_iff.mp H
       have A8 := ak A80; clear A80
       by_cases c9 : t581 = true
       ·subst c9
        rw [if_pos rfl] at H; have H' := ak H; clear H; have p578 : 0 ≤ (x4_1 : Int) := dq; have q578 : x4_1 < (l0.length : Int) := dq; obtain ⟨ad578, e578, hx578_0, hx578_1⟩ := at_T49 HR0.out x4_1 p578 q578; cases e578; replace hx578_0 := hb_ HB hx578_0; replace hx578_1 := hb_ HB hx578_1; replace p578 := eq_true p578; replace q578 := eq_true q578
        go_wp2_with (first | ((with_reducible refine gate_callee (f := 60) rfl ?_); refine goesL_ (some 22) rfl rfl Try.func60 (by kernel_rfl) rfl #[.int .i64 ((rd_T49 l0 x4_1).f0), .int .i64 (-60), .int .i64 60] rfl aq ?_; (with_reducible refine (spec_l1In.calls ((rd_T49 l0 x4_1).f0) (-60) 60 true _ A6.out).mono ?_); rintro e w' ⟨rfl, ⟨nd, rfl⟩⟩; refine ⟨_, rfl, ?_⟩; have p580 : 0 ≤ (x4_1 : Int) := dq; have q580 : x4_1 < (l0.length : Int) := dq; obtain ⟨ad580, e580, hx580_0, hx580_1⟩ := at_T49 HR0.out x4_1 p580 q580; obtain rfl : ad578 = ad580 := (by injection e580); replace hx580_0 := hb_ HB hx580_0; replace hx580_1 := hb_ HB hx580_1; replace p580 := eq_true p580; replace q580 := eq_true q580) | (go_at_call 60; (with_reducible refine (spec_l1In.calls ((rd_T49 l0 x4_1).f1) (-60) 60 true _ A8.out).mono ?_); rintro e w' ⟨rfl, ⟨nd, rfl⟩⟩))
        go_roundg k1
        case measure => have := HK1.out; omega
        case rel => exact ⟨(wrap64 (x4_1 + 1)), sq, H', ⟨by have := HK1.out; omega⟩, ⟨bq⟩⟩
       ·replace c9 := Bool.eq_false_iff.mpr c9
        subst c9; rw [if_neg (show ¬ (false = true) by decide)] at H; obtain ⟨y582, hy582⟩ : ∃ y_ : List (S49), y_ = (([] : List (S49))) := ⟨_, rfl⟩
        replace H : (some (y582, false)) = some (r1, r2) := by first | (rw [hy582]; with_reducible exact H) | (have H2_ := (Option.bind_some _ _).symm.trans H; rw [hy582]; with_reducible exact H2_) | (have H2_ := (Option.bind_some _ _).symm.trans H; with_reducible exact H2_) | with_reducible exact H | (rw [hy582]; exact H) | exact H
        have Ny582 := ak hy582; clear hy582; simp only [Option.some.injEq, Prod.mk.injEq] at H; obtain ⟨rfl, rfl⟩ := H; have p578 : 0 ≤ (x4_1 : Int) := dq; have q578 : x4_1 < (l0.length : Int) := dq; obtain ⟨ad578, e578, hx578_0, hx578_1⟩ := at_T49 HR0.out x4_1 p578 q578; cases e578; replace hx578_0 := hb_ HB hx578_0; replace hx578_1 := hb_ HB hx578_1; replace p578 := eq_true p578; replace q578 := eq_true q578
        go_wp2_with (first | ((with_reducible refine gate_callee (f := 60) rfl ?_); refine goesL_ (some 22) rfl rfl Try.func60 (by kernel_rfl) rfl #[.int .i64 ((rd_T49 l0 x4_1).f0), .int .i64 (-60), .int .i64 60] rfl aq ?_; (with_reducible refine (spec_l1In.calls ((rd_T49 l0 x4_1).f0) (-60) 60 true _ A6.out).mono ?_); rintro e w' ⟨rfl, ⟨nd, rfl⟩⟩; refine ⟨_, rfl, ?_⟩; have p580 : 0 ≤ (x4_1 : Int) := dq; have q580 : x4_1 < (l0.length : Int) := dq; obtain ⟨ad580, e580, hx580_0, hx580_1⟩ := at_T49 HR0.out x4_1 p580 q580; obtain rfl : ad578 = ad580 := (by injection e580); replace hx580_0 := hb_ HB hx580_0; replace hx580_1 := hb_ HB hx580_1; replace p580 := eq_true p580; replace q580 := eq_true q580) | (go_at_call 60; (with_reducible refine (spec_l1In.calls ((rd_T49 l0 x4_1).f1) (-60) 60 false _ A8.out).mono ?_); rintro e w' ⟨rfl, ⟨nd, rfl⟩⟩) | ((with_reducible refine gate_dst (N := 33) rfl ?_); refine Kd.R_lit k49 _ 49 ?hg (N := 33) ?hd (xs := ([] : List (S49))) (inner := []) (ok := fun _ => True) (okp := fun _ => True) ?hr ?hp (fun _ hk => hk) trivial (Below.refl _ _) (Nat.le_refl _) (by simp) ?_; (case hd => rfl); (case hg => rfl); (case hr => (go_simp; done)); (case hp => exact (Reps.none _ _)); intro v583 w10 ho11 hb hg_ hnew_; clear hg_ hnew_; (rw [← Ny582.out] at ho11); have n0_ := ak (Kd.R_lower ho11 (below_size bq)); have n1_ := ak (below_step bq hb); clear HB; have HO584 := n0_; have HB := n1_; clear n0_ n1_; clear hb ho11))
        go_ret2
        exact ⟨_, eq_, rq HO584, bq⟩
      ·replace c7 := Bool.eq_false_iff.mpr c7
       subst c7; rw [if_neg (show ¬ (false = true) by decide)] at H; obtain ⟨y585, hy585⟩ : ∃ y_ : List (S49), y_ = (([] : List (S49))) := ⟨_, rfl⟩
       replace H : (some (y585, false)) = some (r1, r2) := by first | (rw [hy585]; with_reducible exact H) | (have H2_ := (Option.bind_some _ _).symm.trans H; rw [hy585]; with_reducible exact H2_) | (have H2_ := (Option.bind_some _ _).symm.trans H; with_reducible exact H2_) | with_reducible exact H | (rw [hy585]; exact H) | exact H
       have Ny585 := ak hy585; clear hy585; simp only [Option.some.injEq, Prod.mk.injEq] at H; obtain ⟨rfl, rfl⟩ := H; have p578 : 0 ≤ (x4_1 : Int) := dq; have q578 : x4_1 < (l0.length : Int) := dq; obtain ⟨ad578, e578, hx578_0, hx578_1⟩ := at_T49 HR0.out x4_1 p578 q578; cases e578; replace hx578_0 := hb_ HB hx578_0; replace hx578_1 := hb_ HB hx578_1; replace p578 := eq_true p578; replace q578 := eq_true q578
       go_wp2_with (first | ((with_reducible refine gate_callee (f := 60) rfl ?_); refine goesL_ (some 22) rfl rfl Try.func60 (by kernel_rfl) rfl #[.int .i64 ((rd_T49 l0 x4_1).f0), .int .i64 (-60), .int .i64 60] rfl aq ?_; (with_reducible refine (spec_l1In.calls ((rd_T49 l0 x4_1).f0) (-60) 60 false _ A6.out).mono ?_); rintro e w' ⟨rfl, ⟨nd, rfl⟩⟩; refine ⟨_, rfl, ?_⟩) | ((with_reducible refine gate_dst (N := 33) rfl ?_); refine Kd.R_lit k49 _ 49 ?hg (N := 33) ?hd (xs := ([] : List (S49))) (inner := []) (ok := fun _ => True) (okp := fun _ => True) ?hr ?hp (fun _ hk => hk) trivial (Below.refl _ _) (Nat.le_refl _) (by simp) ?_; (case hd => rfl); (case hg => rfl); (case hr => (go_simp; done)); (case hp => exact (Reps.none _ _)); intro v586 w12 ho13 hb hg_ hnew_; clear hg_ hnew_; (rw [← Ny585.out] at ho13); have n0_ := ak (Kd.R_lower ho13 (below_size bq)); have n1_ := ak (below_step bq hb); clear HB; have HO587 := n0_; have HB := n1_; clear n0_ n1_; clear hb ho13))
       go_ret2
       exact ⟨_, eq_, rq HO587, bq⟩
     ·rw [if_neg c5] at H
      exact absurd H (by simp)
    ·rw [if_neg c4] at H
     have c4b0 := decide_eq_false c4; clear c4; obtain ⟨t588, A140, H⟩ := Option.bind_eq_some_iff.mp H
     have A14 := ak A140; clear A140; obtain ⟨t591, A150, H⟩ := Option.bind_eq_some_iff.mp H
     have A15 := ak A150; clear A150
     by_cases c16 : t591 = true
     ·subst c16
      rw [if_pos rfl] at H; simp only [Option.some.injEq, Prod.mk.injEq] at H; obtain ⟨rfl, rfl⟩ := H
      go_wp2_with (first | ((with_reducible refine gate_callee (f := 68) rfl ?_); refine goesL_ (some 35) rfl rfl Try.func68 (by kernel_rfl) rfl #[.slice A0 l0.length c0] rfl aq ?_; (with_reducible refine (spec_l8Down.calls k1 _ _ l0 t588 _ ?side1 ?side2 A14.out).mono ?_); (case side1 => exact cq (Kd.C_below HR0.out HB.out)); (case side2 => exact HC0.out); rintro e w17 ⟨v589, rfl, ho0, hb⟩; refine ⟨_, rfl, ?_⟩; have n0_ := ak (Kd.R_lower ho0 (below_size bq)); have n1_ := ak (below_step bq hb); clear HB; have HO590 := n0_; have HB := n1_; clear n0_ n1_; (try clear hb); (try clear ho0); obtain ⟨Ao18, co18, eo18⟩ := Kd.R_slice HO590.out; subst eo18) | ((with_reducible refine gate_callee (f := 55) rfl ?_); refine goesL_ (some 37) rfl rfl Try.func55 (by kernel_rfl) rfl #[.slice Ao18 t588.length co18] rfl aq ?_; (with_reducible refine (spec_l8Body.calls k1 _ _ t588 true _ ?side1 ?side2 A15.out).mono ?_); (case side1 => exact cq (Kd.R_reads' HO590.out).2.2); (case side2 => exact (Kd.R_reads' HO590.out).2.1); rintro e w19 ⟨rfl, hb⟩; refine ⟨_, rfl, ?_⟩; have n0_ := ak (Kd.R_below (rq HO590) hb); have n1_ := ak (below_step bq hb); clear HO590; clear HB; have HO590 := n0_; have HB := n1_; clear n0_ n1_; (try clear hb)))
      go_ret2
      exact ⟨_, eq_, rq HO590, bq⟩
     ·replace c16 := Bool.eq_false_iff.mpr c16
      subst c16; rw [if_neg (show ¬ (false = true) by decide)] at H; obtain ⟨y592, hy592⟩ : ∃ y_ : List (S49), y_ = (([] : List (S49))) := ⟨_, rfl⟩
      replace H : (some (y592, false)) = some (r1, r2) := by first | (rw [hy592]; with_reducible exact H) | (have H2_ := (Option.bind_some _ _).symm.trans H; rw [hy592]; with_reducible exact H2_) | (have H2_ := (Option.bind_some _ _).symm.trans H; with_reducible exact H2_) | with_reducible exact H | (rw [hy592]; exact H) | exact H
      have Ny592 := ak hy592; clear hy592; simp only [Option.some.injEq, Prod.mk.injEq] at H; obtain ⟨rfl, rfl⟩ := H
      go_wp2_with (first | ((with_reducible refine gate_callee (f := 68) rfl ?_); refine goesL_ (some 35) rfl rfl Try.func68 (by kernel_rfl) rfl #[.slice A0 l0.length c0] rfl aq ?_; (with_reducible refine (spec_l8Down.calls k1 _ _ l0 t588 _ ?side1 ?side2 A14.out).mono ?_); (case side1 => exact cq (Kd.C_below HR0.out HB.out)); (case side2 => exact HC0.out); rintro e w20 ⟨v589, rfl, ho0, hb⟩; refine ⟨_, rfl, ?_⟩; have n0_ := ak (Kd.R_lower ho0 (below_size bq)); have n1_ := ak (below_step bq hb); clear HB; have HO590 := n0_; have HB := n1_; clear n0_ n1_; (try clear hb); (try clear ho0); obtain ⟨Ao21, co21, eo21⟩ := Kd.R_slice HO590.out; subst eo21) | ((with_reducible refine gate_callee (f := 55) rfl ?_); refine goesL_ (some 37) rfl rfl Try.func55 (by kernel_rfl) rfl #[.slice Ao21 t588.length co21] rfl aq ?_; (with_reducible refine (spec_l8Body.calls k1 _ _ t588 false _ ?side1 ?side2 A15.out).mono ?_); (case side1 => exact cq (Kd.R_reads' HO590.out).2.2); (case side2 => exact (Kd.R_reads' HO590.out).2.1); rintro e w22 ⟨rfl, hb⟩; refine ⟨_, rfl, ?_⟩; have n0_ := ak (Kd.R_below (rq HO590) hb); have n1_ := ak (below_step bq hb); clear HO590; clear HB; have HO590 := n0_; have HB := n1_; clear n0_ n1_; (try clear hb)) | ((with_reducible refine gate_dst (N := 39) rfl ?_); refine Kd.R_lit k49 _ 49 ?hg (N := 39) ?hd (xs := ([] : List (S49))) (inner := []) (ok := fun _ => True) (okp := fun _ => True) ?hr ?hp (fun _ hk => hk) trivial (Below.refl _ _) (Nat.le_refl _) (by simp) ?_; (case hd => rfl); (case hg => rfl); (case hr => (go_simp; done)); (case hp => exact (Reps.none _ _)); intro v593 w23 ho24 hb hg_ hnew_; clear hg_ hnew_; (rw [← Ny592.out] at ho24); have n0_ := ak (Kd.R_elder' (rq HO590) (Kd.R_base ho24) hb); have n1_ := ak (Kd.R_lower (Kd.R_new' ho24 (Kd.R_lt (rq HO590))) (below_size bq)); have n2_ := ak (below_step bq hb); clear HO590; clear HB; have HO590 := n0_; have HO594 := n1_; have HB := n2_; clear n0_ n1_ n2_; clear hb ho24))
      go_ret2
      exact ⟨_, eq_, by exact Kd.R_mono HO594.out (fun _ hk => trivial), bq⟩
 ·replace c3 := Bool.eq_false_iff.mpr c3
  subst c3; rw [if_neg (show ¬ (false = true) by decide)] at H; obtain ⟨y575, hy575⟩ : ∃ y_ : List (S49), y_ = (([] : List (S49))) := ⟨_, rfl⟩
  replace H : (some (y575, false)) = some (r1, r2) := by first | (rw [hy575]; with_reducible exact H) | (have H2_ := (Option.bind_some _ _).symm.trans H; rw [hy575]; with_reducible exact H2_) | (have H2_ := (Option.bind_some _ _).symm.trans H; with_reducible exact H2_) | with_reducible exact H | (rw [hy575]; exact H) | exact H
  have Ny575 := ak hy575; clear hy575; simp only [Option.some.injEq, Prod.mk.injEq] at H; obtain ⟨rfl, rfl⟩ := H
  go_enter Try.func53, Try.ntmps53
  go_wp2_with (first | ((with_reducible refine gate_callee (f := 60) rfl ?_); refine goesL_ (some 8) rfl rfl Try.func60 (by kernel_rfl) rfl #[.int .i64 (l0.length : Int), .int .i64 1, .int .i64 12] rfl aq ?_; (with_reducible refine (spec_l1In.calls (l0.length : Int) 1 12 false _ A2.out).mono ?_); rintro e w' ⟨rfl, ⟨nd, rfl⟩⟩; refine ⟨_, rfl, ?_⟩) | ((with_reducible refine gate_dst (N := 10) rfl ?_); refine Kd.R_lit k49 _ 49 ?hg (N := 10) ?hd (xs := ([] : List (S49))) (inner := []) (ok := fun _ => True) (okp := fun _ => True) ?hr ?hp (fun _ hk => hk) trivial (Below.refl _ _) (Nat.le_refl _) (by simp) ?_; (case hd => rfl); (case hg => rfl); (case hr => (go_simp; done)); (case hp => exact (Reps.none _ _)); intro v576 w25 ho26 hb hg_ hnew_; clear hg_ hnew_; (rw [← Ny575.out] at ho26); have n0_ := ak (Kd.R_lower ho26 (below_size bq)); have n1_ := ak (below_step bq hb); clear HB; have HO577 := n0_; have HB := n1_; clear n0_ n1_; clear hb ho26))
  go_ret2
  exact ⟨_, eq_, rq HO577, bq⟩

/-! ### laws_rHas: function 54 -/
def laws_rHas.l0 : Nat → List Int → Int → Int → Option (Bool)
 | 0, _, _, _ => none
 | k + 1, x0, x1, x5 => if x5 < (x0.length : Int) then (if 0 ≤ x5 then (if (rd x0 x5) = x1 then (some true) else (laws_rHas.l0 k x0 x1 (wrap64 (x5 + 1)))) else (none)) else (some false)
def laws_rHas.f (k : Nat) (l0 : List Int) (a1 : Int) : Option (Bool) := laws_rHas.l0 k l0 a1 0
theorem laws_rHas.mono_l : ∀ k, (∀ y0 y1 y2, LeO (laws_rHas.l0 k y0 y1 y2) (laws_rHas.l0 (k + 1) y0 y1 y2))
 | 0 => fun _ _ _ r h => by simp [laws_rHas.l0] at h
 | k + 1 => by
  have ih0 := laws_rHas.mono_l k
  ·intro y0 y1 y2
   unfold laws_rHas.l0
   repeat' first
   | (with_reducible exact ih0 _ _ _)
   | (with_reducible exact LeO.refl _)
   | (with_reducible exact LeO.none _)
   | (with_reducible refine LeO.ite ?_ ?_)
   | (with_reducible refine LeO.bind ?_ (fun _ => ?_))
theorem laws_rHas.mono : ∀ a0 a1 k, LeO (laws_rHas.f k a0 a1) (laws_rHas.f (k + 1) a0 a1) := by
 intro a0 a1 k; have ih0 := laws_rHas.mono_l k
 unfold laws_rHas.f
 repeat' first
   | (with_reducible exact ih0 _ _ _)
   | (with_reducible exact LeO.refl _)
   | (with_reducible exact LeO.none _)
   | (with_reducible refine LeO.ite ?_ ?_)
   | (with_reducible refine LeO.bind ?_ (fun _ => ?_))
set_option maxHeartbeats 8000000 in
set_option maxRecDepth 100000 in
theorem laws_rHas.calls (k : Nat) (A0 : Option Addr) (c0 : Nat) (l0 : List Int) (a1 : Int) (r : Bool) (w : World) (hr0 : Kd.C (Kd.int .i64) w A0 l0.length l0) (hc0 : l0.length ≤ c0) (h : laws_rHas.f k l0 a1 = some r) :
  Calls Try.prog 54 #[.slice A0 l0.length c0, .int .i64 a1] w fun e w' => e = .returned (.bool r) ∧ Drawn0 w w' := by
 have HR0 := ak hr0; have HC0 := ak hc0; clear hr0 hc0; have H : (laws_rHas.l0 k l0 a1 0) = some r := h; clear h; have H' := ak H; clear H
 go_enter Try.func54, Try.ntmps54
 go_wp2
 go_loopg [5] k (fun kq v5 w' => ∃ (x5_1 : Int), v5 = .int .i64 x5_1 ∧ Aside0 (laws_rHas.l0 kq l0 a1 x5_1 = some r) ∧ Aside0 (kq ≤ k) ∧ Drawn0 w w')
 case atStart => exact ⟨(0), sq, H', ⟨Nat.le_refl _⟩, by repeat (exact Drawn0.refl _)⟩
 case round =>
  clear H'; obtain ⟨x5_1, rfl, HA, HK1, ⟨m1, rfl⟩⟩ := hrel
  cases gk with
  | zero => exact absurd HA.out (by simp [laws_rHas.l0])
  | succ k1 =>
   have H := HA.out; clear HA; simp only [laws_rHas.l0] at H
   by_cases c3 : x5_1 < (l0.length : Int)
   ·rw [if_pos c3] at H
    have c3b0 := decide_eq_true c3; clear c3
    by_cases c4 : 0 ≤ x5_1
    ·rw [if_pos c4] at H
     have c4b0 := decide_eq_true c4; clear c4
     by_cases c5 : (rd l0 x5_1) = a1
     ·rw [if_pos c5] at H
      have c5b0 : ((rd l0 x5_1) == a1) = true := beq_iff_eq.mpr c5; have c5b1 : ((rd l0 x5_1) != a1) = false := bne_eq_false_iff_eq.mpr c5; clear c5; obtain rfl := Option.some.inj H; have p595 : 0 ≤ (x5_1 : Int) := dq; have q595 : x5_1 < (l0.length : Int) := dq; obtain ⟨ad595, e595, hx595_0⟩ := Kd.at_int HR0.out x5_1 p595 q595; cases e595; replace p595 := eq_true p595; replace q595 := eq_true q595; go_wp2; go_ret; exact ⟨sq, by repeat (first | exact Drawn0.refl _ | apply Drawn0.step)⟩
     ·rw [if_neg c5] at H
      have c5b0 : ((rd l0 x5_1) == a1) = false := beq_eq_false_iff_ne.mpr c5; have c5b1 : ((rd l0 x5_1) != a1) = true := bne_iff_ne.mpr c5; have H' := ak H; clear H; have p595 : 0 ≤ (x5_1 : Int) := dq; have q595 : x5_1 < (l0.length : Int) := dq; obtain ⟨ad595, e595, hx595_0⟩ := Kd.at_int HR0.out x5_1 p595 q595; cases e595; replace p595 := eq_true p595; replace q595 := eq_true q595; go_wp2; go_roundg k1
      case measure => have := HK1.out; omega
      case rel => exact ⟨(wrap64 (x5_1 + 1)), sq, H', ⟨by have := HK1.out; omega⟩, by repeat (first | exact Drawn0.refl _ | apply Drawn0.step)⟩
    ·rw [if_neg c4] at H
     exact absurd H (by simp)
   ·rw [if_neg c3] at H
    have c3b0 := decide_eq_false c3; clear c3; obtain rfl := Option.some.inj H; go_wp2; go_ret; exact ⟨sq, by repeat (first | exact Drawn0.refl _ | apply Drawn0.step)⟩

end Go.Proofs.Ytckhmeadflafaaa.XFb
