/- Functions of the program as plain Lean functions, each with the proof that the machine's call does what it says: written by a program of this session out of the translation. -/
import Derived.Test.YtckhmeadflafaaaXFbx0
import Derived.Test.YtckhmeadflafaaaXFbx6
import Derived.Test.YtckhmeadflafaaaXFbx14
import Derived.Test.YtckhmeadflafaaaXFbx15
import Derived.Test.YtckhmeadflafaaaXFbx23
namespace Go.Proofs.Ytckhmeadflafaaa.XFb
open Go.RowKit Go.Proofs.YtckhmeadflafaaaW.PrintWords Go.Proofs.YtckhmeadflafaaaW.PrintLast Go.Proofs.YtckhmeadflafaaaW.PrintMore
attribute [local go_sem] max2_int min2_int max_two min_two max_three min_three max_four min_four   -- for this text's walks alone
set_option linter.unusedVariables false
set_option linter.unusedSimpArgs false

/-! ### spec_TumbleBody: function 23 -/
mutual
def spec_TumbleBody.l0 : Nat → List (S49) → Int → Option ((List (S49)) × Int × Bool)
 | 0, _, _ => none
 | k + 1, x5, x6 => (spec_l8Side.f k x5).bind fun t461 => (if t461 = 0 then (spec_TumbleBody.j1 k x5 x6 false) else (spec_TumbleBody.j1 k x5 x6 (decide (x6 < 4))))
def spec_TumbleBody.j1 : Nat → List (S49) → Int → Bool → Option ((List (S49)) × Int × Bool)
 | 0, _, _, _ => none
 | k + 1, x5, x6, x19 => if x19 = true then ((spec_l8Side.f k x5).bind fun t462 => ((spec_l8Turn.f k x5 t462).bind fun t463 => (spec_TumbleBody.l0 k t463 (wrap64 (x6 + 1))))) else ((spec_l8Side.f k x5).bind fun t466 => (if t466 = 0 then (some (x5, x6, true)) else (some ((([] : List (S49))), 0, false))))
end
def spec_TumbleBody.f (k : Nat) (l0 : List (S49)) : Option ((List (S49)) × Int × Bool) := (spec_l8Body.f k l0).bind fun t454 => (if t454 = true then ((spec_l8Down.f k l0).bind fun t458 => (spec_TumbleBody.l0 k t458 0)) else (some ((([] : List (S49))), 0, false)))
theorem spec_TumbleBody.mono_l : ∀ k, (∀ y0 y1, LeO (spec_TumbleBody.l0 k y0 y1) (spec_TumbleBody.l0 (k + 1) y0 y1)) ∧ (∀ y0 y1 y2, LeO (spec_TumbleBody.j1 k y0 y1 y2) (spec_TumbleBody.j1 (k + 1) y0 y1 y2))
 | 0 => ⟨fun _ _ r h => by simp [spec_TumbleBody.l0] at h, fun _ _ _ r h => by simp [spec_TumbleBody.j1] at h⟩
 | k + 1 => by
  obtain ⟨ih0, ih1⟩ := spec_TumbleBody.mono_l k; refine ⟨?_, ?_⟩
  ·intro y0 y1
   unfold spec_TumbleBody.l0
   repeat' first
   | (with_reducible exact ih0 _ _)
   | (with_reducible exact ih1 _ _ _)
   | (with_reducible exact spec_l8Body.mono _ _)
   | (with_reducible exact spec_l8Down.mono _ _)
   | (with_reducible exact spec_l8Side.mono _ _)
   | (with_reducible exact spec_l8Turn.mono _ _ _)
   | (with_reducible exact LeO.refl _)
   | (with_reducible exact LeO.none _)
   | (with_reducible refine LeO.ite ?_ ?_)
   | (with_reducible refine LeO.bind ?_ (fun _ => ?_))
  ·intro y0 y1 y2
   unfold spec_TumbleBody.j1
   repeat' first
   | (with_reducible exact ih0 _ _)
   | (with_reducible exact ih1 _ _ _)
   | (with_reducible exact spec_l8Body.mono _ _)
   | (with_reducible exact spec_l8Down.mono _ _)
   | (with_reducible exact spec_l8Side.mono _ _)
   | (with_reducible exact spec_l8Turn.mono _ _ _)
   | (with_reducible exact LeO.refl _)
   | (with_reducible exact LeO.none _)
   | (with_reducible refine LeO.ite ?_ ?_)
   | (with_reducible refine LeO.bind ?_ (fun _ => ?_))
theorem spec_TumbleBody.mono : ∀ a0 k, LeO (spec_TumbleBody.f k a0) (spec_TumbleBody.f (k + 1) a0) := by
 intro a0 k; obtain ⟨ih0, ih1⟩ := spec_TumbleBody.mono_l k
 unfold spec_TumbleBody.f
 repeat' first
   | (with_reducible exact ih0 _ _)
   | (with_reducible exact ih1 _ _ _)
   | (with_reducible exact spec_l8Body.mono _ _)
   | (with_reducible exact spec_l8Down.mono _ _)
   | (with_reducible exact spec_l8Side.mono _ _)
   | (with_reducible exact spec_l8Turn.mono _ _ _)
   | (with_reducible exact LeO.refl _)
   | (with_reducible exact LeO.none _)
   | (with_reducible refine LeO.ite ?_ ?_)
   | (with_reducible refine LeO.bind ?_ (fun _ => ?_))
set_option maxHeartbeats 8000000 in
set_option maxRecDepth 100000 in
theorem spec_TumbleBody.calls (k : Nat) (A0 : Option Addr) (c0 : Nat) (l0 : List (S49)) (r1 : List (S49)) (r2 : Int) (r3 : Bool) (w : World) (hr0 : Kd.C k49 w A0 l0.length l0) (hc0 : l0.length ≤ c0) (h : spec_TumbleBody.f k l0 = some (r1, r2, r3)) :
  Calls Try.prog 23 #[.slice A0 l0.length c0] w fun e w' => ∃ v0_ : Value, e = .returned (.tuple #[v0_, .int .i64 r2, .bool r3]) ∧ Kd.R k49 49 w' w.heap.size (fun _ => True) v0_ r1 ∧ Below w.heap.size w w' := by
 have HR0 := ak hr0; have HC0 := ak hc0; clear hr0 hc0; have HB := ak (Below.refl w.heap.size w); have H : ((spec_l8Body.f k l0).bind fun t454 => (if t454 = true then ((spec_l8Down.f k l0).bind fun t458 => (spec_TumbleBody.l0 k t458 0)) else (some ((([] : List (S49))), 0, false)))) = some (r1, r2, r3) := h; clear h; obtain ⟨t454, A20, H⟩ := Option.bind_eq_some_iff.mp H
 have A2 := ak A20; clear A20
 by_cases c3 : t454 = true
 ·subst c3
  rw [if_pos rfl] at H; obtain ⟨t458, A40, H⟩ := Option.bind_eq_some_iff.mp H
  have A4 := ak A40; clear A40; have H' := ak H; clear H
  go_enter Try.func23, Try.ntmps23
  go_wp2_with (first | ((with_reducible refine gate_callee (f := 55) rfl ?_); refine goesL_ (some 8) rfl rfl Try.func55 (by kernel_rfl) rfl #[.slice A0 l0.length c0] rfl aq ?_; (with_reducible refine (spec_l8Body.calls k _ _ l0 true _ ?side1 ?side2 A2.out).mono ?_); (case side1 => exact cq HR0.out); (case side2 => exact HC0.out); rintro e w5 ⟨rfl, hb⟩; refine ⟨_, rfl, ?_⟩; have n0_ := ak (below_step bq hb); clear HB; have HB := n0_; clear n0_; (try clear hb)) | ((with_reducible refine gate_callee (f := 68) rfl ?_); refine goesL_ (some 12) rfl rfl Try.func68 (by kernel_rfl) rfl #[.slice A0 l0.length c0] rfl aq ?_; (with_reducible refine (spec_l8Down.calls k _ _ l0 t458 _ ?side1 ?side2 A4.out).mono ?_); (case side1 => exact cq (Kd.C_below HR0.out HB.out)); (case side2 => exact HC0.out); rintro e w6 ⟨v459, rfl, ho0, hb⟩; refine ⟨_, rfl, ?_⟩; have n0_ := ak (Kd.R_lower ho0 (below_size bq)); have n1_ := ak (below_step bq hb); clear HB; have HO460 := n0_; have HB := n1_; clear n0_ n1_; (try clear hb); (try clear ho0)))
  go_loopg [5, 6] k (fun kq v5 v6 w' => ∃ (x5_1 : List (S49)) (x6_1 : Int), v6 = .int .i64 x6_1 ∧ Aside0 (spec_TumbleBody.l0 kq x5_1 x6_1 = some (r1, r2, r3)) ∧ Aside0 (kq ≤ k) ∧ Aside0 (Kd.R k49 49 w' w.heap.size (fun _ => True) v5 x5_1) ∧ Aside0 (Below w.heap.size w w'))
  case atStart => exact ⟨(t458), (0), sq, H', ⟨Nat.le_refl _⟩, ⟨rq HO460⟩, ⟨bq⟩⟩
  case round =>
   clear H'; obtain ⟨x5_1, x6_1, rfl, HA, HK1, HO_5, HB⟩ := hrel
   cases gk with
   | zero => exact absurd HA.out (by simp [spec_TumbleBody.l0])
   | succ k1 =>
    have H := HA.out; clear HA; simp only [spec_TumbleBody.l0] at H; have HC7 := ak H; clear H
    go_upto_region 4 with (fail)
    go_cut [19] (fun v19 wc => ∃ (kq : Nat) (x19_6 : Bool), v19 = .bool x19_6 ∧ Aside0 (spec_TumbleBody.j1 kq x5_1 x6_1 x19_6 = some (r1, r2, r3)) ∧ Aside0 (kq ≤ k1) ∧ Aside0 (Kd.R k49 49 wc w.heap.size (fun _ => True) u5 x5_1) ∧ Aside0 (Below w.heap.size w wc))
    case first =>
     have H := HC7.out; clear HC7; obtain ⟨t461, A80, H⟩ := Option.bind_eq_some_iff.mp H
     have A8 := ak A80; clear A80
     by_cases c9 : t461 = 0
     ·rw [if_pos c9] at H
      have c9b0 : (t461 == 0) = true := beq_iff_eq.mpr c9; have c9b1 : (t461 != 0) = false := bne_eq_false_iff_eq.mpr c9; clear c9
      (skip)
      have H' := ak H; clear H; obtain ⟨Ao10, co10, eo10⟩ := Kd.R_slice HO_5.out; subst eo10
      go_wp2_with (((with_reducible refine gate_callee (f := 74) rfl ?_); refine goesL_ (some 14) rfl rfl Try.func74 (by kernel_rfl) rfl #[.slice Ao10 x5_1.length co10] rfl aq ?_; (with_reducible refine (spec_l8Side.calls k1 _ _ x5_1 t461 _ ?side1 ?side2 A8.out).mono ?_); (case side1 => exact cq (Kd.R_reads' HO_5.out).2.2); (case side2 => exact (Kd.R_reads' HO_5.out).2.1); rintro e w' ⟨rfl, ⟨nd, rfl⟩⟩; refine ⟨_, rfl, ?_⟩))
      go_meet
      case rel => exact ⟨_, (false), sq, H', ⟨by have := HK1.out; first | omega | exact Nat.le_refl _⟩, ⟨rq HO_5⟩, ⟨bq⟩⟩
     ·rw [if_neg c9] at H
      have c9b0 : (t461 == 0) = false := beq_eq_false_iff_ne.mpr c9; have c9b1 : (t461 != 0) = true := bne_iff_ne.mpr c9
      (skip)
      have H' := ak H; clear H; obtain ⟨Ao11, co11, eo11⟩ := Kd.R_slice HO_5.out; subst eo11
      go_wp2_with (((with_reducible refine gate_callee (f := 74) rfl ?_); refine goesL_ (some 14) rfl rfl Try.func74 (by kernel_rfl) rfl #[.slice Ao11 x5_1.length co11] rfl aq ?_; (with_reducible refine (spec_l8Side.calls k1 _ _ x5_1 t461 _ ?side1 ?side2 A8.out).mono ?_); (case side1 => exact cq (Kd.R_reads' HO_5.out).2.2); (case side2 => exact (Kd.R_reads' HO_5.out).2.1); rintro e w' ⟨rfl, ⟨nd, rfl⟩⟩; refine ⟨_, rfl, ?_⟩))
      go_meet
      case rel => exact ⟨_, (decide (x6_1 < 4)), sq, H', ⟨by have := HK1.out; first | omega | exact Nat.le_refl _⟩, ⟨rq HO_5⟩, ⟨bq⟩⟩
    case rest =>
     clear HC7; obtain ⟨kq, x19_6, rfl, HA, HJ6, HO_5, HB⟩ := hcut
     cases kq with
     | zero => exact absurd HA.out (by simp [spec_TumbleBody.j1])
     | succ kj6 =>
      have H := HA.out; clear HA; simp only [spec_TumbleBody.j1] at H
      by_cases c12 : x19_6 = true
      ·subst c12
       rw [if_pos rfl] at H; obtain ⟨t462, A130, H⟩ := Option.bind_eq_some_iff.mp H
       have A13 := ak A130; clear A130; obtain ⟨t463, A140, H⟩ := Option.bind_eq_some_iff.mp H
       have A14 := ak A140; clear A140; have H' := ak H; clear H; obtain ⟨Ao15, co15, eo15⟩ := Kd.R_slice HO_5.out; subst eo15
       go_wp2_with (first | ((with_reducible refine gate_callee (f := 74) rfl ?_); refine goesL_ (some 22) rfl rfl Try.func74 (by kernel_rfl) rfl #[.slice Ao15 x5_1.length co15] rfl aq ?_; (with_reducible refine (spec_l8Side.calls kj6 _ _ x5_1 t462 _ ?side1 ?side2 A13.out).mono ?_); (case side1 => exact cq (Kd.R_reads' HO_5.out).2.2); (case side2 => exact (Kd.R_reads' HO_5.out).2.1); rintro e w' ⟨rfl, ⟨nd, rfl⟩⟩; refine ⟨_, rfl, ?_⟩) | ((with_reducible refine gate_callee (f := 75) rfl ?_); refine goesL_ (some 23) rfl rfl Try.func75 (by kernel_rfl) rfl #[.slice Ao15 x5_1.length co15, .int .i64 t462] rfl aq ?_; (with_reducible refine (spec_l8Turn.calls kj6 _ _ x5_1 t462 t463 _ ?side1 ?side2 A14.out).mono ?_); (case side1 => exact cq (Kd.R_reads' HO_5.out).2.2); (case side2 => exact (Kd.R_reads' HO_5.out).2.1); rintro e w16 ⟨v464, rfl, ho0, hb⟩; refine ⟨_, rfl, ?_⟩; have n0_ := ak (Kd.R_elder' (rq HO_5) (Kd.R_base ho0) hb); have n1_ := ak (Kd.R_lower (Kd.R_new' ho0 (Kd.R_lt (rq HO_5))) (below_size bq)); have n2_ := ak (below_step bq hb); clear HO_5; clear HB; have HO_5 := n0_; have HO465 := n1_; have HB := n2_; clear n0_ n1_ n2_; (try clear hb); (try clear ho0)))
       go_roundg kj6
       case measure => have := HK1.out; have := HJ6.out; omega
       case rel => exact ⟨(t463), (wrap64 (x6_1 + 1)), sq, H', ⟨by have := HK1.out; have := HJ6.out; omega⟩, ⟨by exact Kd.R_mono HO465.out (fun _ hk => trivial)⟩, ⟨bq⟩⟩
      ·replace c12 := Bool.eq_false_iff.mpr c12
       subst c12; rw [if_neg (show ¬ (false = true) by decide)] at H; obtain ⟨t466, A170, H⟩ := Option.bind_eq_some_iff.mp H
       have A17 := ak A170; clear A170
       by_cases c18 : t466 = 0
       ·rw [if_pos c18] at H
        have c18b0 : (t466 == 0) = true := beq_iff_eq.mpr c18; have c18b1 : (t466 != 0) = false := bne_eq_false_iff_eq.mpr c18; clear c18; simp only [Option.some.injEq, Prod.mk.injEq] at H; obtain ⟨rfl, rfl, rfl⟩ := H; obtain ⟨Ao19, co19, eo19⟩ := Kd.R_slice HO_5.out; subst eo19
        go_wp2_with (((with_reducible refine gate_callee (f := 74) rfl ?_); refine goesL_ (some 27) rfl rfl Try.func74 (by kernel_rfl) rfl #[.slice Ao19 x5_1.length co19] rfl aq ?_; (with_reducible refine (spec_l8Side.calls kj6 _ _ x5_1 t466 _ ?side1 ?side2 A17.out).mono ?_); (case side1 => exact cq (Kd.R_reads' HO_5.out).2.2); (case side2 => exact (Kd.R_reads' HO_5.out).2.1); rintro e w' ⟨rfl, ⟨nd, rfl⟩⟩; refine ⟨_, rfl, ?_⟩))
        go_ret3
        exact ⟨_, eq_, rq HO_5, bq⟩
       ·rw [if_neg c18] at H
        have c18b0 : (t466 == 0) = false := beq_eq_false_iff_ne.mpr c18; have c18b1 : (t466 != 0) = true := bne_iff_ne.mpr c18; obtain ⟨y467, hy467⟩ : ∃ y_ : List (S49), y_ = (([] : List (S49))) := ⟨_, rfl⟩
        replace H : (some (y467, 0, false)) = some (r1, r2, r3) := by first | (rw [hy467]; with_reducible exact H) | (have H2_ := (Option.bind_some _ _).symm.trans H; rw [hy467]; with_reducible exact H2_) | (have H2_ := (Option.bind_some _ _).symm.trans H; with_reducible exact H2_) | with_reducible exact H | (rw [hy467]; exact H) | exact H
        have Ny467 := ak hy467; clear hy467; simp only [Option.some.injEq, Prod.mk.injEq] at H; obtain ⟨rfl, rfl, rfl⟩ := H; obtain ⟨Ao20, co20, eo20⟩ := Kd.R_slice HO_5.out; subst eo20
        go_wp2_with (first | ((with_reducible refine gate_callee (f := 74) rfl ?_); refine goesL_ (some 27) rfl rfl Try.func74 (by kernel_rfl) rfl #[.slice Ao20 x5_1.length co20] rfl aq ?_; (with_reducible refine (spec_l8Side.calls kj6 _ _ x5_1 t466 _ ?side1 ?side2 A17.out).mono ?_); (case side1 => exact cq (Kd.R_reads' HO_5.out).2.2); (case side2 => exact (Kd.R_reads' HO_5.out).2.1); rintro e w' ⟨rfl, ⟨nd, rfl⟩⟩; refine ⟨_, rfl, ?_⟩) | ((with_reducible refine gate_dst (N := 29) rfl ?_); refine Kd.R_lit k49 _ 49 ?hg (N := 29) ?hd (xs := ([] : List (S49))) (inner := []) (ok := fun _ => True) (okp := fun _ => True) ?hr ?hp (fun _ hk => hk) trivial (Below.refl _ _) (Nat.le_refl _) (by simp) ?_; (case hd => rfl); (case hg => rfl); (case hr => (go_simp; done)); (case hp => exact (Reps.none _ _)); intro v468 w21 ho22 hb hg_ hnew_; clear hg_ hnew_; (rw [← Ny467.out] at ho22); have n0_ := ak (Kd.R_elder' (rq HO_5) (Kd.R_base ho22) hb); have n1_ := ak (Kd.R_lower (Kd.R_new' ho22 (Kd.R_lt (rq HO_5))) (below_size bq)); have n2_ := ak (below_step bq hb); clear HO_5; clear HB; have HO_5 := n0_; have HO469 := n1_; have HB := n2_; clear n0_ n1_ n2_; clear hb ho22))
        go_ret3
        exact ⟨_, eq_, by exact Kd.R_mono HO469.out (fun _ hk => trivial), bq⟩
 ·replace c3 := Bool.eq_false_iff.mpr c3
  subst c3; rw [if_neg (show ¬ (false = true) by decide)] at H; obtain ⟨y455, hy455⟩ : ∃ y_ : List (S49), y_ = (([] : List (S49))) := ⟨_, rfl⟩
  replace H : (some (y455, 0, false)) = some (r1, r2, r3) := by first | (rw [hy455]; with_reducible exact H) | (have H2_ := (Option.bind_some _ _).symm.trans H; rw [hy455]; with_reducible exact H2_) | (have H2_ := (Option.bind_some _ _).symm.trans H; with_reducible exact H2_) | with_reducible exact H | (rw [hy455]; exact H) | exact H
  have Ny455 := ak hy455; clear hy455; simp only [Option.some.injEq, Prod.mk.injEq] at H; obtain ⟨rfl, rfl, rfl⟩ := H
  go_enter Try.func23, Try.ntmps23
  go_wp2_with (first | ((with_reducible refine gate_callee (f := 55) rfl ?_); refine goesL_ (some 8) rfl rfl Try.func55 (by kernel_rfl) rfl #[.slice A0 l0.length c0] rfl aq ?_; (with_reducible refine (spec_l8Body.calls k _ _ l0 false _ ?side1 ?side2 A2.out).mono ?_); (case side1 => exact cq HR0.out); (case side2 => exact HC0.out); rintro e w23 ⟨rfl, hb⟩; refine ⟨_, rfl, ?_⟩; have n0_ := ak (below_step bq hb); clear HB; have HB := n0_; clear n0_; (try clear hb)) | ((with_reducible refine gate_dst (N := 10) rfl ?_); refine Kd.R_lit k49 _ 49 ?hg (N := 10) ?hd (xs := ([] : List (S49))) (inner := []) (ok := fun _ => True) (okp := fun _ => True) ?hr ?hp (fun _ hk => hk) trivial (Below.refl _ _) (Nat.le_refl _) (by simp) ?_; (case hd => rfl); (case hg => rfl); (case hr => (go_simp; done)); (case hp => exact (Reps.none _ _)); intro v456 w24 ho25 hb hg_ hnew_; clear hg_ hnew_; (rw [← Ny455.out] at ho25); have n0_ := ak (Kd.R_lower ho25 (below_size bq)); have n1_ := ak (below_step bq hb); clear HB; have HO457 := n0_; have HB := n1_; clear n0_ n1_; clear hb ho25))
  go_ret3
  exact ⟨_, eq_, rq HO457, bq⟩

end Go.Proofs.Ytckhmeadflafaaa.XFb
