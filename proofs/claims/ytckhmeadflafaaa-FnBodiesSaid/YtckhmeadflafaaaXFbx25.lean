/- Functions of the program as plain Lean functions, each with the proof that the machine's call does what it says: written by a program of this session out of the translation. -/
import Derived.Test.YtckhmeadflafaaaXFbx0
import Derived.Test.YtckhmeadflafaaaXFbx11
import Derived.Test.YtckhmeadflafaaaXFbx12
import Derived.Test.YtckhmeadflafaaaXFbx14
import Derived.Test.YtckhmeadflafaaaXFbx15
import Derived.Test.YtckhmeadflafaaaXFbx21
import Derived.Test.YtckhmeadflafaaaXFbx23
namespace Go.Proofs.Ytckhmeadflafaaa.XFb
open Go.RowKit Go.Proofs.YtckhmeadflafaaaW.PrintWords Go.Proofs.YtckhmeadflafaaaW.PrintLast Go.Proofs.YtckhmeadflafaaaW.PrintMore
attribute [local go_sem] max2_int min2_int max_two min_two max_three min_three max_four min_four   -- for this text's walks alone
set_option linter.unusedVariables false
set_option linter.unusedSimpArgs false

/-! ### impl_StandingTurns: function 45 -/
def impl_StandingTurns.l0 : Nat → List Int → List (S49) → Int → Option (List Int × Bool)
 | 0, _, _, _ => none
 | k + 1, x4, x5, x12 => if x12 < 4 then ((impl_bodySide.f k x5).bind fun t474 => (if t474 = 0 then (if x4.length < 17592186044416 then ((impl_turnBody.f k x5 1).bind fun t478 => (impl_StandingTurns.l0 k (x4 ++ [x12]) t478 (wrap64 (x12 + 1)))) else (none)) else ((impl_turnBody.f k x5 1).bind fun t481 => (impl_StandingTurns.l0 k x4 t481 (wrap64 (x12 + 1)))))) else (some (x4, true))
def impl_StandingTurns.f (k : Nat) (l0 : List (S49)) : Option (List Int × Bool) := (impl_IsBody.f k l0).bind fun t470 => (if t470 = true then (impl_StandingTurns.l0 k (([] : List Int)) l0 0) else (some (([] : List Int), false)))
theorem impl_StandingTurns.mono_l : ∀ k, (∀ y0 y1 y2, LeO (impl_StandingTurns.l0 k y0 y1 y2) (impl_StandingTurns.l0 (k + 1) y0 y1 y2))
 | 0 => fun _ _ _ r h => by simp [impl_StandingTurns.l0] at h
 | k + 1 => by
  have ih0 := impl_StandingTurns.mono_l k
  ·intro y0 y1 y2
   unfold impl_StandingTurns.l0
   repeat' first
   | (with_reducible exact ih0 _ _ _)
   | (with_reducible exact impl_IsBody.mono _ _)
   | (with_reducible exact impl_bodySide.mono _ _)
   | (with_reducible exact impl_turnBody.mono _ _ _)
   | (with_reducible exact LeO.refl _)
   | (with_reducible exact LeO.none _)
   | (with_reducible refine LeO.ite ?_ ?_)
   | (with_reducible refine LeO.bind ?_ (fun _ => ?_))
theorem impl_StandingTurns.mono : ∀ a0 k, LeO (impl_StandingTurns.f k a0) (impl_StandingTurns.f (k + 1) a0) := by
 intro a0 k; have ih0 := impl_StandingTurns.mono_l k
 unfold impl_StandingTurns.f
 repeat' first
   | (with_reducible exact ih0 _ _ _)
   | (with_reducible exact impl_IsBody.mono _ _)
   | (with_reducible exact impl_bodySide.mono _ _)
   | (with_reducible exact impl_turnBody.mono _ _ _)
   | (with_reducible exact LeO.refl _)
   | (with_reducible exact LeO.none _)
   | (with_reducible refine LeO.ite ?_ ?_)
   | (with_reducible refine LeO.bind ?_ (fun _ => ?_))
set_option maxHeartbeats 8000000 in
set_option maxRecDepth 100000 in
theorem impl_StandingTurns.calls (k : Nat) (P0_ : Nat → Prop) (A0 : Option Addr) (c0 : Nat) (l0 : List (S49)) (r1 : List Int) (r2 : Bool) (w : World) (hs0 : Kd.V k49 49 w w.heap.size (fun k_ => P0_ k_) (.slice A0 l0.length c0) l0) (h : impl_StandingTurns.f k l0 = some (r1, r2)) :
  Calls Try.prog 45 #[.slice A0 l0.length c0] w fun e w' => ∃ v0_ : Value, e = .returned (.tuple #[v0_, .bool r2]) ∧ Kd.R (Kd.int .i64) 3 w' w.heap.size (fun k_ => (w.heap.size ≤ k_)) v0_ r1 ∧ Below w.heap.size w w' := by
 have HO0 := ak (show Kd.V k49 49 w w.heap.size (fun k_ => (P0_ k_ ∨ w.heap.size ≤ k_)) (.slice A0 l0.length c0) l0 from Kd.V_mono hs0 (fun k_ hk => .inl hk)); have HB := ak (Below.refl w.heap.size w); have H : ((impl_IsBody.f k l0).bind fun t470 => (if t470 = true then (impl_StandingTurns.l0 k (([] : List Int)) l0 0) else (some (([] : List Int), false)))) = some (r1, r2) := h; clear h; obtain ⟨t470, A20, H⟩ := Option.bind_eq_some_iff.mp H
 have A2 := ak A20; clear A20
 by_cases c3 : t470 = true
 ·subst c3
  rw [if_pos rfl] at H; obtain ⟨y471, hy471⟩ : ∃ y_ : List Int, y_ = (([] : List Int)) := ⟨_, rfl⟩
  replace H : (impl_StandingTurns.l0 k y471 l0 0) = some (r1, r2) := by first | (rw [hy471]; with_reducible exact H) | (have H2_ := (Option.bind_some _ _).symm.trans H; rw [hy471]; with_reducible exact H2_) | (have H2_ := (Option.bind_some _ _).symm.trans H; with_reducible exact H2_) | with_reducible exact H | (rw [hy471]; exact H) | exact H
  have Ny471 := ak hy471; clear hy471; have H' := ak H; clear H
  go_enter Try.func45, Try.ntmps45
  go_wp2_with (first | ((with_reducible refine gate_callee (f := 34) rfl ?_); refine goesL_ (some 8) rfl rfl Try.func34 (by kernel_rfl) rfl #[.slice A0 l0.length c0] rfl aq ?_; (with_reducible refine (impl_IsBody.calls k _ _ l0 true _ ?side1 ?side2 A2.out).mono ?_); (case side1 => exact cq (Kd.V_reads' HO0.out).2.2); (case side2 => exact (Kd.V_reads' HO0.out).2.1); rintro e w4 ⟨rfl, hb⟩; refine ⟨_, rfl, ?_⟩; have n0_ := ak (Kd.V_below (by exact HO0.out) hb); have n1_ := ak (below_step bq hb); clear HO0; clear HB; have HO0 := n0_; have HB := n1_; clear n0_ n1_; (try clear hb)) | ((with_reducible refine gate_dst (N := 10) rfl ?_); refine Kd.R_lit (Kd.int .i64) _ 3 ?hg (N := 10) ?hd (xs := ([] : List Int)) (inner := []) (ok := fun _ => True) (okp := fun _ => True) ?hr ?hp (fun _ hk => hk) trivial (Below.refl _ _) (Nat.le_refl _) (by simp) ?_; (case hd => rfl); (case hg => rfl); (case hr => (go_simp; done)); (case hp => exact (Reps.none _ _)); intro v472 w5 ho6 hb hg_ hnew_; clear hg_ hnew_; (rw [← Ny471.out] at ho6); have n0_ := ak (Kd.V_elder' (by exact HO0.out) (Kd.R_base ho6) hb); have n1_ := ak (Kd.R_lower (Kd.R_newM (M := fun k_ => (w.heap.size ≤ k_)) ho6 (below_size bq) (fun k_ h_ => h_)) (below_size bq)); have n2_ := ak (below_step bq hb); clear HO0; clear HB; have HO0 := n0_; have HO473 := n1_; have HB := n2_; clear n0_ n1_ n2_; clear hb ho6))
  go_loopg [4, 5, 12] k (fun kq v4 v5 v12 w' => ∃ (x4_1 : List Int) (x5_1 : List (S49)) (x12_1 : Int), v12 = .int .i64 x12_1 ∧ Aside0 (impl_StandingTurns.l0 kq x4_1 x5_1 x12_1 = some (r1, r2)) ∧ Aside0 (kq ≤ k) ∧ Aside0 (Kd.R (Kd.int .i64) 3 w' w.heap.size (fun k_ => (w.heap.size ≤ k_)) v4 x4_1) ∧ Aside0 (Kd.V k49 49 w' w.heap.size (fun k_ => (P0_ k_ ∨ w.heap.size ≤ k_) ∧ some k_ ≠ (v4 : Value).ownBlock) v5 x5_1) ∧ Aside0 (Below w.heap.size w w'))
  case atStart => exact ⟨(y471), (l0), (0), sq, H', ⟨Nat.le_refl _⟩, ⟨by exact Kd.R_mono HO473.out (fun _ hk => hk.1)⟩, ⟨by exact HO0.out⟩, ⟨bq⟩⟩
  case round =>
   clear H'; obtain ⟨x4_1, x5_1, x12_1, rfl, HA, HK1, HO_4, HO_5, HB⟩ := hrel
   cases gk with
   | zero => exact absurd HA.out (by simp [impl_StandingTurns.l0])
   | succ k1 =>
    have H := HA.out; clear HA; simp only [impl_StandingTurns.l0] at H
    by_cases c7 : x12_1 < 4
    ·rw [if_pos c7] at H
     have c7b0 := decide_eq_true c7; clear c7; obtain ⟨t474, A80, H⟩ := Option.bind_eq_some_iff.mp H
     have A8 := ak A80; clear A80
     by_cases c9 : t474 = 0
     ·rw [if_pos c9] at H
      have c9b0 : (t474 == 0) = true := beq_iff_eq.mpr c9; have c9b1 : (t474 != 0) = false := bne_eq_false_iff_eq.mpr c9; clear c9
      by_cases c10 : x4_1.length < 17592186044416
      ·rw [if_pos c10] at H
       have LMc10 := ak c10; clear c10; obtain ⟨y475, hy475⟩ : ∃ y_ : List Int, y_ = (x4_1 ++ [x12_1]) := ⟨_, rfl⟩
       replace H : ((impl_turnBody.f k1 x5_1 1).bind fun t478 => (impl_StandingTurns.l0 k1 y475 t478 (wrap64 (x12_1 + 1)))) = some (r1, r2) := by first | (rw [hy475]; with_reducible exact H) | (have H2_ := (Option.bind_some _ _).symm.trans H; rw [hy475]; with_reducible exact H2_) | (have H2_ := (Option.bind_some _ _).symm.trans H; with_reducible exact H2_) | with_reducible exact H | (rw [hy475]; exact H) | exact H
       have Ny475 := ak hy475; clear hy475; obtain ⟨t478, A110, H⟩ := Option.bind_eq_some_iff.mp H
       have A11 := ak A110; clear A110; have H' := ak H; clear H; obtain ⟨Ao12, co12, eo12⟩ := Kd.V_slice HO_5.out; subst eo12
       go_wp2_with (first | ((with_reducible refine gate_callee (f := 76) rfl ?_); refine goesL_ (some 16) rfl rfl Try.func76 (by kernel_rfl) rfl #[.slice Ao12 x5_1.length co12] rfl aq ?_; (with_reducible refine (impl_bodySide.calls k1 _ _ x5_1 t474 _ ?side1 ?side2 A8.out).mono ?_); (case side1 => exact cq (Kd.V_reads' HO_5.out).2.2); (case side2 => exact (Kd.V_reads' HO_5.out).2.1); rintro e w13 ⟨rfl, hb⟩; refine ⟨_, rfl, ?_⟩; have n0_ := ak (Kd.R_below (rq HO_4) hb); have n1_ := ak (Kd.V_below (by exact HO_5.out) hb); have n2_ := ak (below_step bq hb); clear HO_4; clear HO_5; clear HB; have HO_4 := n0_; have HO_5 := n1_; have HB := n2_; clear n0_ n1_ n2_; (try clear hb)) | ((with_reducible refine gate_builtin (b := .append) (xs := #[.tmp 18, .tmp 20]) rfl ?_); at_builtin; refine Kd.R_append (Kd.int .i64) (w0 := w) w.heap.size rfl (.tmp 18) (.tmp 20) 24 3 (.int .i64 0) 8 rfl Try.underlying24 info3 rfl (by decide) (by omega) u4 x4_1 x12_1 [.int .i64 x12_1] (fun k_ => (w.heap.size ≤ k_)) (fun _ => False) rfl rfl ?aP (fun _ hk => hk.elim) ?aF ?aO ?aB ?aS ?aL ?_; (case aP => exact rfl); (case aB => exact bq); (case aF => exact (fun k_ hk => (Nat.le_trans (below_size bq) hk))); (case aO => exact (rq HO_4)); (case aS => exact (below_size bq)); (case aL => have := LMc10.out; omega); intro v476 w14 ho hb hg hat; rw [← Ny475.out] at ho; have n0_ := ak (Kd.V_afterv (ok := (fun k_ => (P0_ k_ ∨ w.heap.size ≤ k_))) (by exact HO_5.out) hg hat); have n1_ := ak (hb); have n2_ := ak (ho); clear HO_5; clear HB; clear HO_4; have HO_5 := n0_; have HB := n1_; have HO477 := n2_; clear n0_ n1_ n2_; clear ho hb hg hat) | ((with_reducible refine gate_callee (f := 77) rfl ?_); refine goesL_ (some 23) rfl rfl Try.func77 (by kernel_rfl) rfl #[.slice Ao12 x5_1.length co12, .int .i64 1] rfl aq ?_; (with_reducible refine (impl_turnBody.calls k1 _ _ x5_1 1 t478 _ ?side1 ?side2 A11.out).mono ?_); (case side1 => exact cq (Kd.V_reads' HO_5.out).2.2); (case side2 => exact (Kd.V_reads' HO_5.out).2.1); rintro e w15 ⟨v479, rfl, ho0, hb⟩; refine ⟨_, rfl, ?_⟩; have n0_ := ak (Kd.V_elder' (by exact HO_5.out) (Kd.R_base ho0) hb); have n1_ := ak (Kd.R_below (rq HO477) hb); have n2_ := ak (Kd.R_lower (Kd.R_newM (M := fun k_ => (w.heap.size ≤ k_)) ho0 (below_size bq) (fun k_ h_ => h_)) (below_size bq)); have n3_ := ak (below_step bq hb); clear HO_5; clear HO477; clear HB; have HO_5 := n0_; have HO477 := n1_; have HO480 := n2_; have HB := n3_; clear n0_ n1_ n2_ n3_; (try clear hb); (try clear ho0)))
       go_roundg k1
       case measure => have := HK1.out; omega
       case rel => exact ⟨(y475), (t478), (wrap64 (x12_1 + 1)), sq, H', ⟨by have := HK1.out; omega⟩, ⟨rq HO477⟩, ⟨Kd.V_mono (Kd.R_V (by exact Kd.R_mono (Kd.R_apart' HO480.out (Kd.R_typed HO477.out) (by decide)) (fun _ hk => (⟨hk.1.1, hk.2⟩ : _ ∧ _)))) (fun k_ hk => by first | exact ⟨(.inr (hk.1)), hk.2⟩ | exact (.inr (hk)))⟩, ⟨bq⟩⟩
      ·rw [if_neg c10] at H
       exact absurd H (by simp)
     ·rw [if_neg c9] at H
      have c9b0 : (t474 == 0) = false := beq_eq_false_iff_ne.mpr c9; have c9b1 : (t474 != 0) = true := bne_iff_ne.mpr c9; obtain ⟨t481, A160, H⟩ := Option.bind_eq_some_iff.mp H
      have A16 := ak A160; clear A160; have H' := ak H; clear H; obtain ⟨Ao17, co17, eo17⟩ := Kd.V_slice HO_5.out; subst eo17
      go_wp2_with (first | ((with_reducible refine gate_callee (f := 76) rfl ?_); refine goesL_ (some 16) rfl rfl Try.func76 (by kernel_rfl) rfl #[.slice Ao17 x5_1.length co17] rfl aq ?_; (with_reducible refine (impl_bodySide.calls k1 _ _ x5_1 t474 _ ?side1 ?side2 A8.out).mono ?_); (case side1 => exact cq (Kd.V_reads' HO_5.out).2.2); (case side2 => exact (Kd.V_reads' HO_5.out).2.1); rintro e w18 ⟨rfl, hb⟩; refine ⟨_, rfl, ?_⟩; have n0_ := ak (Kd.R_below (rq HO_4) hb); have n1_ := ak (Kd.V_below (by exact HO_5.out) hb); have n2_ := ak (below_step bq hb); clear HO_4; clear HO_5; clear HB; have HO_4 := n0_; have HO_5 := n1_; have HB := n2_; clear n0_ n1_ n2_; (try clear hb)) | ((with_reducible refine gate_callee (f := 77) rfl ?_); refine goesL_ (some 23) rfl rfl Try.func77 (by kernel_rfl) rfl #[.slice Ao17 x5_1.length co17, .int .i64 1] rfl aq ?_; (with_reducible refine (impl_turnBody.calls k1 _ _ x5_1 1 t481 _ ?side1 ?side2 A16.out).mono ?_); (case side1 => exact cq (Kd.V_reads' HO_5.out).2.2); (case side2 => exact (Kd.V_reads' HO_5.out).2.1); rintro e w19 ⟨v482, rfl, ho0, hb⟩; refine ⟨_, rfl, ?_⟩; have n0_ := ak (Kd.R_below (rq HO_4) hb); have n1_ := ak (Kd.V_elder' (by exact HO_5.out) (Kd.R_base ho0) hb); have n2_ := ak (Kd.R_lower (Kd.R_newM (M := fun k_ => (w.heap.size ≤ k_)) ho0 (below_size bq) (fun k_ h_ => h_)) (below_size bq)); have n3_ := ak (below_step bq hb); clear HO_4; clear HO_5; clear HB; have HO_4 := n0_; have HO_5 := n1_; have HO483 := n2_; have HB := n3_; clear n0_ n1_ n2_ n3_; (try clear hb); (try clear ho0)))
      go_roundg k1
      case measure => have := HK1.out; omega
      case rel => exact ⟨(x4_1), (t481), (wrap64 (x12_1 + 1)), sq, H', ⟨by have := HK1.out; omega⟩, ⟨rq HO_4⟩, ⟨Kd.V_mono (Kd.R_V (by exact Kd.R_mono (Kd.R_apart' HO483.out (Kd.R_typed HO_4.out) (by decide)) (fun _ hk => (⟨hk.1.1, hk.2⟩ : _ ∧ _)))) (fun k_ hk => by first | exact ⟨(.inr (hk.1)), hk.2⟩ | exact (.inr (hk)))⟩, ⟨bq⟩⟩
    ·rw [if_neg c7] at H
     have c7b0 := decide_eq_false c7; clear c7; simp only [Option.some.injEq, Prod.mk.injEq] at H; obtain ⟨rfl, rfl⟩ := H; go_wp2
     go_ret2
     exact ⟨_, eq_, rq HO_4, bq⟩
 ·replace c3 := Bool.eq_false_iff.mpr c3
  subst c3; rw [if_neg (show ¬ (false = true) by decide)] at H; simp only [Option.some.injEq, Prod.mk.injEq] at H; obtain ⟨rfl, rfl⟩ := H
  go_enter Try.func45, Try.ntmps45
  go_wp2_with (((with_reducible refine gate_callee (f := 34) rfl ?_); refine goesL_ (some 8) rfl rfl Try.func34 (by kernel_rfl) rfl #[.slice A0 l0.length c0] rfl aq ?_; (with_reducible refine (impl_IsBody.calls k _ _ l0 false _ ?side1 ?side2 A2.out).mono ?_); (case side1 => exact cq (Kd.V_reads' HO0.out).2.2); (case side2 => exact (Kd.V_reads' HO0.out).2.1); rintro e w20 ⟨rfl, hb⟩; refine ⟨_, rfl, ?_⟩; have n0_ := ak (Kd.V_below (by exact HO0.out) hb); have n1_ := ak (below_step bq hb); clear HO0; clear HB; have HO0 := n0_; have HB := n1_; clear n0_ n1_; (try clear hb)))
  go_ret2
  exact ⟨_, eq_, by first | exact Kd.R_nil _ _ _ _ _ | exact Kd.N_nil _ _ _ _ _ | exact Kd.V_nil _ _ _ _ _ | exact Kd.Q_nil _ _ _ _ _ | exact Kd.S_nil _ _ _ _ _, bq⟩

/-! ### spec_StandingTurns: function 46 -/
def spec_StandingTurns.l0 : Nat → List Int → List (S49) → Int → Option (List Int × Bool)
 | 0, _, _, _ => none
 | k + 1, x4, x5, x6 => if x6 < 4 then ((spec_l8Side.f k x5).bind fun t488 => (if t488 = 0 then (if x4.length < 17592186044416 then ((spec_l8Turn.f k x5 1).bind fun t492 => (spec_StandingTurns.l0 k (x4 ++ [x6]) t492 (wrap64 (x6 + 1)))) else (none)) else ((spec_l8Turn.f k x5 1).bind fun t495 => (spec_StandingTurns.l0 k x4 t495 (wrap64 (x6 + 1)))))) else (some (x4, true))
def spec_StandingTurns.f (k : Nat) (l0 : List (S49)) : Option (List Int × Bool) := (some (([] : List Int) : List Int)).bind fun y484 => ((spec_l8Body.f k l0).bind fun t487 => (if t487 = true then (spec_StandingTurns.l0 k y484 l0 0) else (some (y484, false))))
theorem spec_StandingTurns.mono_l : ∀ k, (∀ y0 y1 y2, LeO (spec_StandingTurns.l0 k y0 y1 y2) (spec_StandingTurns.l0 (k + 1) y0 y1 y2))
 | 0 => fun _ _ _ r h => by simp [spec_StandingTurns.l0] at h
 | k + 1 => by
  have ih0 := spec_StandingTurns.mono_l k
  ·intro y0 y1 y2
   unfold spec_StandingTurns.l0
   repeat' first
   | (with_reducible exact ih0 _ _ _)
   | (with_reducible exact spec_l8Body.mono _ _)
   | (with_reducible exact spec_l8Side.mono _ _)
   | (with_reducible exact spec_l8Turn.mono _ _ _)
   | (with_reducible exact LeO.refl _)
   | (with_reducible exact LeO.none _)
   | (with_reducible refine LeO.ite ?_ ?_)
   | (with_reducible refine LeO.bind ?_ (fun _ => ?_))
theorem spec_StandingTurns.mono : ∀ a0 k, LeO (spec_StandingTurns.f k a0) (spec_StandingTurns.f (k + 1) a0) := by
 intro a0 k; have ih0 := spec_StandingTurns.mono_l k
 unfold spec_StandingTurns.f
 repeat' first
   | (with_reducible exact ih0 _ _ _)
   | (with_reducible exact spec_l8Body.mono _ _)
   | (with_reducible exact spec_l8Side.mono _ _)
   | (with_reducible exact spec_l8Turn.mono _ _ _)
   | (with_reducible exact LeO.refl _)
   | (with_reducible exact LeO.none _)
   | (with_reducible refine LeO.ite ?_ ?_)
   | (with_reducible refine LeO.bind ?_ (fun _ => ?_))
set_option maxHeartbeats 8000000 in
set_option maxRecDepth 100000 in
theorem spec_StandingTurns.calls (k : Nat) (P0_ : Nat → Prop) (A0 : Option Addr) (c0 : Nat) (l0 : List (S49)) (r1 : List Int) (r2 : Bool) (w : World) (hs0 : Kd.V k49 49 w w.heap.size (fun k_ => P0_ k_) (.slice A0 l0.length c0) l0) (h : spec_StandingTurns.f k l0 = some (r1, r2)) :
  Calls Try.prog 46 #[.slice A0 l0.length c0] w fun e w' => ∃ v0_ : Value, e = .returned (.tuple #[v0_, .bool r2]) ∧ Kd.R (Kd.int .i64) 3 w' w.heap.size (fun k_ => (w.heap.size ≤ k_)) v0_ r1 ∧ Below w.heap.size w w' := by
 have HO0 := ak (show Kd.V k49 49 w w.heap.size (fun k_ => (P0_ k_ ∨ w.heap.size ≤ k_)) (.slice A0 l0.length c0) l0 from Kd.V_mono hs0 (fun k_ hk => .inl hk)); have HB := ak (Below.refl w.heap.size w); have H : ((some (([] : List Int) : List Int)).bind fun y484 => ((spec_l8Body.f k l0).bind fun t487 => (if t487 = true then (spec_StandingTurns.l0 k y484 l0 0) else (some (y484, false))))) = some (r1, r2) := h; clear h; obtain ⟨y484, hy484⟩ : ∃ y_ : List Int, y_ = (([] : List Int)) := ⟨_, rfl⟩
 replace H : ((spec_l8Body.f k l0).bind fun t487 => (if t487 = true then (spec_StandingTurns.l0 k y484 l0 0) else (some (y484, false)))) = some (r1, r2) := by first | (rw [hy484]; with_reducible exact H) | (have H2_ := (Option.bind_some _ _).symm.trans H; rw [hy484]; with_reducible exact H2_) | (have H2_ := (Option.bind_some _ _).symm.trans H; with_reducible exact H2_) | with_reducible exact H | (rw [hy484]; exact H) | exact H
 have Ny484 := ak hy484; clear hy484; obtain ⟨t487, A20, H⟩ := Option.bind_eq_some_iff.mp H
 have A2 := ak A20; clear A20
 by_cases c3 : t487 = true
 ·subst c3
  rw [if_pos rfl] at H; have H' := ak H; clear H
  go_enter Try.func46, Try.ntmps46
  go_wp2_with (first | ((with_reducible refine gate_dst (N := 7) rfl ?_); refine Kd.R_lit (Kd.int .i64) _ 3 ?hg (N := 7) ?hd (xs := ([] : List Int)) (inner := []) (ok := fun _ => True) (okp := fun _ => True) ?hr ?hp (fun _ hk => hk) trivial (Below.refl _ _) (Nat.le_refl _) (by simp) ?_; (case hd => rfl); (case hg => rfl); (case hr => (go_simp; done)); (case hp => exact (Reps.none _ _)); intro v485 w4 ho5 hb hg_ hnew_; clear hg_ hnew_; (rw [← Ny484.out] at ho5); have n0_ := ak (Kd.V_elder' (by exact HO0.out) (Kd.R_base ho5) hb); have n1_ := ak (Kd.R_lower (Kd.R_newM (M := fun k_ => (w.heap.size ≤ k_)) ho5 (below_size bq) (fun k_ h_ => h_)) (below_size bq)); have n2_ := ak (below_step bq hb); clear HO0; clear HB; have HO0 := n0_; have HO486 := n1_; have HB := n2_; clear n0_ n1_ n2_; clear hb ho5) | ((with_reducible refine gate_callee (f := 55) rfl ?_); refine goesL_ (some 9) rfl rfl Try.func55 (by kernel_rfl) rfl #[.slice A0 l0.length c0] rfl aq ?_; (with_reducible refine (spec_l8Body.calls k _ _ l0 true _ ?side1 ?side2 A2.out).mono ?_); (case side1 => exact cq (Kd.V_reads' HO0.out).2.2); (case side2 => exact (Kd.V_reads' HO0.out).2.1); rintro e w6 ⟨rfl, hb⟩; refine ⟨_, rfl, ?_⟩; have n0_ := ak (Kd.V_below (by exact HO0.out) hb); have n1_ := ak (Kd.R_below (rq HO486) hb); have n2_ := ak (below_step bq hb); clear HO0; clear HO486; clear HB; have HO0 := n0_; have HO486 := n1_; have HB := n2_; clear n0_ n1_ n2_; (try clear hb)))
  go_loopg [4, 5, 6] k (fun kq v4 v5 v6 w' => ∃ (x4_1 : List Int) (x5_1 : List (S49)) (x6_1 : Int), v6 = .int .i64 x6_1 ∧ Aside0 (spec_StandingTurns.l0 kq x4_1 x5_1 x6_1 = some (r1, r2)) ∧ Aside0 (kq ≤ k) ∧ Aside0 (Kd.R (Kd.int .i64) 3 w' w.heap.size (fun k_ => (w.heap.size ≤ k_)) v4 x4_1) ∧ Aside0 (Kd.V k49 49 w' w.heap.size (fun k_ => (P0_ k_ ∨ w.heap.size ≤ k_) ∧ some k_ ≠ (v4 : Value).ownBlock) v5 x5_1) ∧ Aside0 (Below w.heap.size w w'))
  case atStart => exact ⟨(y484), (l0), (0), sq, H', ⟨Nat.le_refl _⟩, ⟨by exact Kd.R_mono HO486.out (fun _ hk => hk.1)⟩, ⟨by exact HO0.out⟩, ⟨bq⟩⟩
  case round =>
   clear H'; obtain ⟨x4_1, x5_1, x6_1, rfl, HA, HK1, HO_4, HO_5, HB⟩ := hrel
   cases gk with
   | zero => exact absurd HA.out (by simp [spec_StandingTurns.l0])
   | succ k1 =>
    have H := HA.out; clear HA; simp only [spec_StandingTurns.l0] at H
    by_cases c7 : x6_1 < 4
    ·rw [if_pos c7] at H
     have c7b0 := decide_eq_true c7; clear c7; obtain ⟨t488, A80, H⟩ := Option.bind_eq_some_iff.mp H
     have A8 := ak A80; clear A80
     by_cases c9 : t488 = 0
     ·rw [if_pos c9] at H
      have c9b0 : (t488 == 0) = true := beq_iff_eq.mpr c9; have c9b1 : (t488 != 0) = false := bne_eq_false_iff_eq.mpr c9; clear c9
      by_cases c10 : x4_1.length < 17592186044416
      ·rw [if_pos c10] at H
       have LMc10 := ak c10; clear c10; obtain ⟨y489, hy489⟩ : ∃ y_ : List Int, y_ = (x4_1 ++ [x6_1]) := ⟨_, rfl⟩
       replace H : ((spec_l8Turn.f k1 x5_1 1).bind fun t492 => (spec_StandingTurns.l0 k1 y489 t492 (wrap64 (x6_1 + 1)))) = some (r1, r2) := by first | (rw [hy489]; with_reducible exact H) | (have H2_ := (Option.bind_some _ _).symm.trans H; rw [hy489]; with_reducible exact H2_) | (have H2_ := (Option.bind_some _ _).symm.trans H; with_reducible exact H2_) | with_reducible exact H | (rw [hy489]; exact H) | exact H
       have Ny489 := ak hy489; clear hy489; obtain ⟨t492, A110, H⟩ := Option.bind_eq_some_iff.mp H
       have A11 := ak A110; clear A110; have H' := ak H; clear H; obtain ⟨Ao12, co12, eo12⟩ := Kd.V_slice HO_5.out; subst eo12
       go_wp2_with (first | ((with_reducible refine gate_callee (f := 74) rfl ?_); refine goesL_ (some 18) rfl rfl Try.func74 (by kernel_rfl) rfl #[.slice Ao12 x5_1.length co12] rfl aq ?_; (with_reducible refine (spec_l8Side.calls k1 _ _ x5_1 t488 _ ?side1 ?side2 A8.out).mono ?_); (case side1 => exact cq (Kd.V_reads' HO_5.out).2.2); (case side2 => exact (Kd.V_reads' HO_5.out).2.1); rintro e w' ⟨rfl, ⟨nd, rfl⟩⟩; refine ⟨_, rfl, ?_⟩) | ((with_reducible refine gate_builtin (b := .append) (xs := #[.tmp 20, .tmp 22]) rfl ?_); at_builtin; refine Kd.R_append (Kd.int .i64) (w0 := w) w.heap.size rfl (.tmp 20) (.tmp 22) 24 3 (.int .i64 0) 8 rfl Try.underlying24 info3 rfl (by decide) (by omega) u4 x4_1 x6_1 [.int .i64 x6_1] (fun k_ => (w.heap.size ≤ k_)) (fun _ => False) rfl rfl ?aP (fun _ hk => hk.elim) ?aF ?aO ?aB ?aS ?aL ?_; (case aP => exact rfl); (case aB => exact bq); (case aF => exact (fun k_ hk => (Nat.le_trans (below_size bq) hk))); (case aO => exact (rq HO_4)); (case aS => exact (below_size bq)); (case aL => have := LMc10.out; omega); intro v490 w13 ho hb hg hat; rw [← Ny489.out] at ho; have n0_ := ak (Kd.V_afterv (ok := (fun k_ => (P0_ k_ ∨ w.heap.size ≤ k_))) (by (with_reducible repeat (apply Kd.V_drewN)); exact HO_5.out) hg hat); have n1_ := ak (hb); have n2_ := ak (ho); clear HO_5; clear HB; clear HO_4; have HO_5 := n0_; have HB := n1_; have HO491 := n2_; clear n0_ n1_ n2_; clear ho hb hg hat) | ((with_reducible refine gate_callee (f := 75) rfl ?_); refine goesL_ (some 25) rfl rfl Try.func75 (by kernel_rfl) rfl #[.slice Ao12 x5_1.length co12, .int .i64 1] rfl aq ?_; (with_reducible refine (spec_l8Turn.calls k1 _ _ x5_1 1 t492 _ ?side1 ?side2 A11.out).mono ?_); (case side1 => exact cq (Kd.V_reads' HO_5.out).2.2); (case side2 => exact (Kd.V_reads' HO_5.out).2.1); rintro e w14 ⟨v493, rfl, ho0, hb⟩; refine ⟨_, rfl, ?_⟩; have n0_ := ak (Kd.V_elder' (by exact HO_5.out) (Kd.R_base ho0) hb); have n1_ := ak (Kd.R_below (rq HO491) hb); have n2_ := ak (Kd.R_lower (Kd.R_newM (M := fun k_ => (w.heap.size ≤ k_)) ho0 (below_size bq) (fun k_ h_ => h_)) (below_size bq)); have n3_ := ak (below_step bq hb); clear HO_5; clear HO491; clear HB; have HO_5 := n0_; have HO491 := n1_; have HO494 := n2_; have HB := n3_; clear n0_ n1_ n2_ n3_; (try clear hb); (try clear ho0)))
       go_roundg k1
       case measure => have := HK1.out; omega
       case rel => exact ⟨(y489), (t492), (wrap64 (x6_1 + 1)), sq, H', ⟨by have := HK1.out; omega⟩, ⟨rq HO491⟩, ⟨Kd.V_mono (Kd.R_V (by exact Kd.R_mono (Kd.R_apart' HO494.out (Kd.R_typed HO491.out) (by decide)) (fun _ hk => (⟨hk.1.1, hk.2⟩ : _ ∧ _)))) (fun k_ hk => by first | exact ⟨(.inr (hk.1)), hk.2⟩ | exact (.inr (hk)))⟩, ⟨bq⟩⟩
      ·rw [if_neg c10] at H
       exact absurd H (by simp)
     ·rw [if_neg c9] at H
      have c9b0 : (t488 == 0) = false := beq_eq_false_iff_ne.mpr c9; have c9b1 : (t488 != 0) = true := bne_iff_ne.mpr c9; obtain ⟨t495, A150, H⟩ := Option.bind_eq_some_iff.mp H
      have A15 := ak A150; clear A150; have H' := ak H; clear H; obtain ⟨Ao16, co16, eo16⟩ := Kd.V_slice HO_5.out; subst eo16
      go_wp2_with (first | ((with_reducible refine gate_callee (f := 74) rfl ?_); refine goesL_ (some 18) rfl rfl Try.func74 (by kernel_rfl) rfl #[.slice Ao16 x5_1.length co16] rfl aq ?_; (with_reducible refine (spec_l8Side.calls k1 _ _ x5_1 t488 _ ?side1 ?side2 A8.out).mono ?_); (case side1 => exact cq (Kd.V_reads' HO_5.out).2.2); (case side2 => exact (Kd.V_reads' HO_5.out).2.1); rintro e w' ⟨rfl, ⟨nd, rfl⟩⟩; refine ⟨_, rfl, ?_⟩) | ((with_reducible refine gate_callee (f := 75) rfl ?_); refine goesL_ (some 25) rfl rfl Try.func75 (by kernel_rfl) rfl #[.slice Ao16 x5_1.length co16, .int .i64 1] rfl aq ?_; (with_reducible refine (spec_l8Turn.calls k1 _ _ x5_1 1 t495 _ ?side1 ?side2 A15.out).mono ?_); (case side1 => exact cq (Kd.V_reads' HO_5.out).2.2); (case side2 => exact (Kd.V_reads' HO_5.out).2.1); rintro e w17 ⟨v496, rfl, ho0, hb⟩; refine ⟨_, rfl, ?_⟩; have n0_ := ak (Kd.R_below (rq HO_4) hb); have n1_ := ak (Kd.V_elder' (by (with_reducible repeat (apply Kd.V_drewN)); exact HO_5.out) (Kd.R_base ho0) hb); have n2_ := ak (Kd.R_lower (Kd.R_newM (M := fun k_ => (w.heap.size ≤ k_)) ho0 (below_size bq) (fun k_ h_ => h_)) (below_size bq)); have n3_ := ak (below_step bq hb); clear HO_4; clear HO_5; clear HB; have HO_4 := n0_; have HO_5 := n1_; have HO497 := n2_; have HB := n3_; clear n0_ n1_ n2_ n3_; (try clear hb); (try clear ho0)))
      go_roundg k1
      case measure => have := HK1.out; omega
      case rel => exact ⟨(x4_1), (t495), (wrap64 (x6_1 + 1)), sq, H', ⟨by have := HK1.out; omega⟩, ⟨rq HO_4⟩, ⟨Kd.V_mono (Kd.R_V (by exact Kd.R_mono (Kd.R_apart' HO497.out (Kd.R_typed HO_4.out) (by decide)) (fun _ hk => (⟨hk.1.1, hk.2⟩ : _ ∧ _)))) (fun k_ hk => by first | exact ⟨(.inr (hk.1)), hk.2⟩ | exact (.inr (hk)))⟩, ⟨bq⟩⟩
    ·rw [if_neg c7] at H
     have c7b0 := decide_eq_false c7; clear c7; simp only [Option.some.injEq, Prod.mk.injEq] at H; obtain ⟨rfl, rfl⟩ := H; go_wp2
     go_ret2
     exact ⟨_, eq_, rq HO_4, bq⟩
 ·replace c3 := Bool.eq_false_iff.mpr c3
  subst c3; rw [if_neg (show ¬ (false = true) by decide)] at H; simp only [Option.some.injEq, Prod.mk.injEq] at H; obtain ⟨rfl, rfl⟩ := H
  go_enter Try.func46, Try.ntmps46
  go_wp2_with (first | ((with_reducible refine gate_dst (N := 7) rfl ?_); refine Kd.R_lit (Kd.int .i64) _ 3 ?hg (N := 7) ?hd (xs := ([] : List Int)) (inner := []) (ok := fun _ => True) (okp := fun _ => True) ?hr ?hp (fun _ hk => hk) trivial (Below.refl _ _) (Nat.le_refl _) (by simp) ?_; (case hd => rfl); (case hg => rfl); (case hr => (go_simp; done)); (case hp => exact (Reps.none _ _)); intro v485 w18 ho19 hb hg_ hnew_; clear hg_ hnew_; (rw [← Ny484.out] at ho19); have n0_ := ak (Kd.V_elder' (by exact HO0.out) (Kd.R_base ho19) hb); have n1_ := ak (Kd.R_lower (Kd.R_newM (M := fun k_ => (w.heap.size ≤ k_)) ho19 (below_size bq) (fun k_ h_ => h_)) (below_size bq)); have n2_ := ak (below_step bq hb); clear HO0; clear HB; have HO0 := n0_; have HO486 := n1_; have HB := n2_; clear n0_ n1_ n2_; clear hb ho19) | ((with_reducible refine gate_callee (f := 55) rfl ?_); refine goesL_ (some 9) rfl rfl Try.func55 (by kernel_rfl) rfl #[.slice A0 l0.length c0] rfl aq ?_; (with_reducible refine (spec_l8Body.calls k _ _ l0 false _ ?side1 ?side2 A2.out).mono ?_); (case side1 => exact cq (Kd.V_reads' HO0.out).2.2); (case side2 => exact (Kd.V_reads' HO0.out).2.1); rintro e w20 ⟨rfl, hb⟩; refine ⟨_, rfl, ?_⟩; have n0_ := ak (Kd.V_below (by exact HO0.out) hb); have n1_ := ak (Kd.R_below (rq HO486) hb); have n2_ := ak (below_step bq hb); clear HO0; clear HO486; clear HB; have HO0 := n0_; have HO486 := n1_; have HB := n2_; clear n0_ n1_ n2_; (try clear hb)))
  go_ret2
  exact ⟨_, eq_, by exact Kd.R_mono HO486.out (fun _ hk => hk.1), bq⟩

end Go.Proofs.Ytckhmeadflafaaa.XFb
