/- Functions of the program as plain Lean functions, each with the proof that the machine's call does what it says: written by a program of this session out of the translation. -/
import Derived.Test.YtckhmeadflafaaaGreatXFcx0
import Derived.Test.YtckhmeadflafaaaGreatXFcx1
import Derived.Test.YtckhmeadflafaaaGreatXFcx2
import Derived.Test.YtckhmeadflafaaaGreatXFcx4
import Derived.Test.YtckhmeadflafaaaGreatXFcx5
import Derived.Shelf.SlSortCmp.Whole1
import Derived.Sort.AssemblyPlain
import Derived.Test.YtckhmeadflafaaaGreatSortLayB
import Derived.Test.YtckhmeadflafaaaGreatXFcx3
import Derived.Deep.RegionLaw
import Derived.Lib.SliceRun
import Derived.Lib.Hide
namespace Go.Proofs.YtckhmeadflafaaaGreat.XFc
open Go.RowKit Go.Proofs.YtckhmeadflafaaaGreatW.PrintWords Go.Proofs.YtckhmeadflafaaaGreatW.PrintLast Go.Proofs.YtckhmeadflafaaaGreatW.PrintMore
attribute [local go_sem] max2_int min2_int max_two min_two max_three min_three max_four min_four   -- for this text's walks alone
set_option linter.unusedVariables false
set_option linter.unusedSimpArgs false
set_option maxHeartbeats 8000000
set_option maxRecDepth 100000
/-! ### spec_CellsToStand: function 14 -/
mutual
def spec_CellsToStand.j0 : Nat → List (S37) → List (S37) → Bool → Option ((List (S37)) × Bool)
 | 0, _, _, _ => none
 | k + 1, x0, x4, x15 => if x15 = true then (some (x4, false)) else ((spec_l8Edge.f k x0).bind fun t461 => (spec_CellsToStand.l0 k x0 x4 t461 0))
def spec_CellsToStand.l0 : Nat → List (S37) → List (S37) → List (S37) → Int → Option ((List (S37)) × Bool)
 | 0, _, _, _, _ => none
 | k + 1, x0, x4, x5, x6 => if x6 < (x5.length : Int) then (if 0 ≤ x6 then (if ((rd_T37 x5 x6).f1) ≥ 0 then ((spec_l8Put.f k x0 ((rd_T37 x5 x6).f0) ((rd_T37 x5 x6).f1)).bind fun t466 => ((spec_l8Down.f k t466).bind fun t469 => ((spec_l8Side.f k t469).bind fun t472 => (if t472 = 0 then (if x4.length < 8796093022208 then (spec_CellsToStand.l0 k x0 (x4 ++ [(⟨(rd_T37 x5 x6).f0, (rd_T37 x5 x6).f1⟩ : S37)]) x5 (wrap64 (x6 + 1))) else (none)) else (spec_CellsToStand.l0 k x0 x4 x5 (wrap64 (x6 + 1))))))) else (spec_CellsToStand.l0 k x0 x4 x5 (wrap64 (x6 + 1)))) else (none)) else (some (x4, true))
end
def spec_CellsToStand.f (k : Nat) (l0 : List (S37)) : Option ((List (S37)) × Bool) := (some (([] : List (S37)) : List (S37))).bind fun y457 => ((spec_l8Body.f k l0).bind fun t460 => (if t460 = true then (spec_CellsToStand.j0 k l0 y457 ((l0.length : Int) == 12)) else (spec_CellsToStand.j0 k l0 y457 true)))
theorem spec_CellsToStand.calls (k : Nat) (A0 : Option Addr) (c0 : Nat) (l0 : List (S37)) (r1 : List (S37)) (r2 : Bool) (w : World) (hr0 : Kd.C k37 w A0 l0.length l0) (hc0 : l0.length ≤ c0) (h : spec_CellsToStand.f k l0 = some (r1, r2)) :
  Calls Tryz.prog 14 #[.slice A0 l0.length c0] w fun e w' => ∃ v0_ : Value, e = .returned (.tuple #[v0_, .bool r2]) ∧ Kd.R k37 37 w' w.heap.size (fun _ => True) v0_ r1 ∧ Below w.heap.size w w' := by
 have hu37 := Tryz.underlying37; have HR0 := ak hr0; have HC0 := ak hc0; clear hr0 hc0; have HB := ak (Below.refl w.heap.size w); have H : ((some (([] : List (S37)) : List (S37))).bind fun y457 => ((spec_l8Body.f k l0).bind fun t460 => (if t460 = true then (spec_CellsToStand.j0 k l0 y457 ((l0.length : Int) == 12)) else (spec_CellsToStand.j0 k l0 y457 true)))) = some (r1, r2) := h; clear h; obtain ⟨y457, hy457⟩ : ∃ y_ : List (S37), y_ = (([] : List (S37))) := ⟨_, rfl⟩
 replace H : ((spec_l8Body.f k l0).bind fun t460 => (if t460 = true then (spec_CellsToStand.j0 k l0 y457 ((l0.length : Int) == 12)) else (spec_CellsToStand.j0 k l0 y457 true))) = some (r1, r2) := by first | (rw [hy457]; with_reducible exact H) | (have H2_ := (Option.bind_some _ _).symm.trans H; rw [hy457]; with_reducible exact H2_) | (have H2_ := (Option.bind_some _ _).symm.trans H; with_reducible exact H2_) | with_reducible exact H | (rw [hy457]; exact H) | exact H
 have Ny457 := ak hy457; clear hy457; have HC2 := ak H; clear H
 go_enter Tryz.func14, Tryz.ntmps14
 go_upto_region 2 with (((with_reducible refine gate_dst (N := 7) rfl ?_); (try (refine gate_guard (by rfl) ?_; dsimp only)); refine Kd.R_lit k37 _ 37 ?hg (N := 7) ?hd (xs := ([] : List (S37))) (inner := []) (ok := fun _ => True) (okp := fun _ => True) ?hr ?hp (fun _ hk => hk) trivial (Below.refl _ _) (Nat.le_refl _) (by simp) ?_; (case hd => rfl); (case hg => rfl); (case hr => (go_simp; done)); (case hp => exact (Reps.none _ _)); intro v458 w3 ho4 hb hg_ hnew_; clear hg_ hnew_; (rw [← Ny457.out] at ho4); have n0_ := ak (Kd.R_lower ho4 (below_size bq)); have n1_ := ak (below_step bq hb); clear HB; have HO459 := n0_; have HB := n1_; clear n0_ n1_; clear hb ho4))
 go_cut [15] (fun v15 wc => ∃ (kq : Nat) (x15_1 : Bool), v15 = .bool x15_1 ∧ Aside0 (spec_CellsToStand.j0 kq l0 y457 x15_1 = some (r1, r2)) ∧ Aside0 (kq ≤ k) ∧ Aside0 (Kd.R k37 37 wc w.heap.size (fun _ => True) v458 y457) ∧ Aside0 (Below w.heap.size w wc))
 case first =>
  have H := HC2.out; clear HC2; obtain ⟨t460, A50, H⟩ := Option.bind_eq_some_iff.mp H
  have A5 := ak A50; clear A50
  by_cases c6 : t460 = true
  ·subst c6
   rw [if_pos rfl] at H; have H' := ak H; clear H
   go_wp2_with (((with_reducible refine gate_callee (f := 24) rfl ?_); refine goesL_ (some 9) rfl rfl Tryz.func24 (by kernel_rfl) rfl #[.slice A0 l0.length c0] rfl aq ?_; (with_reducible refine (spec_l8Body.calls k _ _ l0 true _ ?side1 ?side2 A5.out).mono ?_); (case side1 => exact cq (Kd.C_below HR0.out HB.out)); (case side2 => exact HC0.out); rintro e w7 ⟨rfl, hb⟩; refine ⟨_, rfl, ?_⟩; have n0_ := ak (Kd.R_below (rq HO459) hb); have n1_ := ak (below_step bq hb); clear HO459; clear HB; have HO459 := n0_; have HB := n1_; clear n0_ n1_; (try clear hb)))
   go_meet
   case rel => exact ⟨_, (((l0.length : Int) == 12)), sq, H', ⟨by first | omega | exact Nat.le_refl _⟩, ⟨rq HO459⟩, ⟨bq⟩⟩
  ·replace c6 := Bool.eq_false_iff.mpr c6
   subst c6; rw [if_neg (show ¬ (false = true) by decide)] at H; have H' := ak H; clear H
   go_wp2_with (((with_reducible refine gate_callee (f := 24) rfl ?_); refine goesL_ (some 9) rfl rfl Tryz.func24 (by kernel_rfl) rfl #[.slice A0 l0.length c0] rfl aq ?_; (with_reducible refine (spec_l8Body.calls k _ _ l0 false _ ?side1 ?side2 A5.out).mono ?_); (case side1 => exact cq (Kd.C_below HR0.out HB.out)); (case side2 => exact HC0.out); rintro e w8 ⟨rfl, hb⟩; refine ⟨_, rfl, ?_⟩; have n0_ := ak (Kd.R_below (rq HO459) hb); have n1_ := ak (below_step bq hb); clear HO459; clear HB; have HO459 := n0_; have HB := n1_; clear n0_ n1_; (try clear hb)))
   go_meet
   case rel => exact ⟨_, (true), sq, H', ⟨by first | omega | exact Nat.le_refl _⟩, ⟨rq HO459⟩, ⟨bq⟩⟩
 case rest =>
  clear HC2; obtain ⟨kq, x15_1, rfl, HA, HJ1, HO_4, HB⟩ := hcut
  cases kq with
  | zero => exact absurd HA.out (by simp [spec_CellsToStand.j0])
  | succ kj1 =>
   have H := HA.out; clear HA; simp only [spec_CellsToStand.j0] at H
   by_cases c9 : x15_1 = true
   ·subst c9
    rw [if_pos rfl] at H; simp only [Option.some.injEq, Prod.mk.injEq] at H; obtain ⟨rfl, rfl⟩ := H; go_wp2
    go_ret2
    exact ⟨_, eq_, rq HO_4, bq⟩
   ·replace c9 := Bool.eq_false_iff.mpr c9
    subst c9; rw [if_neg (show ¬ (false = true) by decide)] at H; obtain ⟨t461, A100, H⟩ := Option.bind_eq_some_iff.mp H
    have A10 := ak A100; clear A100; have H' := ak H; clear H
    go_wp2_with (((with_reducible refine gate_callee (f := 37) rfl ?_); refine goesL_ (some 18) rfl rfl Tryz.func37 (by kernel_rfl) rfl #[.slice A0 l0.length c0] rfl aq ?_; (with_reducible refine (spec_l8Edge.calls kj1 _ _ l0 t461 _ ?side1 ?side2 A10.out).mono ?_); (case side1 => exact cq (Kd.C_below HR0.out HB.out)); (case side2 => exact HC0.out); rintro e w11 ⟨v462, rfl, ho0, hb⟩; refine ⟨_, rfl, ?_⟩; have n0_ := ak (Kd.R_elder' (rq HO_4) (Kd.R_base ho0) hb); have n1_ := ak (Kd.R_lower (Kd.R_new' ho0 (Kd.R_lt (rq HO_4))) (below_size bq)); have n2_ := ak (below_step bq hb); clear HO_4; clear HB; have HO_4 := n0_; have HO463 := n1_; have HB := n2_; clear n0_ n1_ n2_; (try clear hb); (try clear ho0)))
    go_loopg [4, 6] kj1 (fun kq v4 v6 w' => ∃ (x4_2 : List (S37)) (x6_2 : Int), v6 = .int .i64 x6_2 ∧ Aside0 (spec_CellsToStand.l0 kq l0 x4_2 t461 x6_2 = some (r1, r2)) ∧ Aside0 (kq ≤ kj1) ∧ Aside0 (Kd.R k37 37 w' w.heap.size (fun k_ => some k_ ≠ (v462 : Value).ownBlock) v4 x4_2) ∧ Aside0 (Kd.R k37 37 w' w.heap.size (fun k_ => some k_ ≠ (v4 : Value).ownBlock) v462 t461) ∧ Aside0 (Below w.heap.size w w'))
    case atStart => exact ⟨(y457), (0), sq, H', ⟨Nat.le_refl _⟩, ⟨by exact Kd.R_mono HO_4.out (fun _ hk => hk.2)⟩, ⟨by exact Kd.R_mono HO463.out (fun _ hk => hk.2)⟩, ⟨bq⟩⟩
    case round =>
     clear H'; obtain ⟨x4_2, x6_2, rfl, HA, HK2, HO_4, HO_5, HB⟩ := hrel
     cases gk with
     | zero => exact absurd HA.out (by simp [spec_CellsToStand.l0])
     | succ k2 =>
      have H := HA.out; clear HA; simp only [spec_CellsToStand.l0] at H
      by_cases c12 : x6_2 < (t461.length : Int)
      ·rw [if_pos c12] at H
       have c12b0 := decide_eq_true c12; clear c12
       revert H; refine ig_ fun c13 H => ?_
       have c13b0 := decide_eq_true c13; clear c13
       by_cases c14 : ((rd_T37 t461 x6_2).f1) ≥ 0
       ·rw [if_pos c14] at H
        have c14b0 : decide (0 ≤ ((rd_T37 t461 x6_2).f1)) = true := decide_eq_true c14; clear c14; obtain ⟨t466, A150, H⟩ := Option.bind_eq_some_iff.mp H
        have A15 := ak A150; clear A150; obtain ⟨t469, A160, H⟩ := Option.bind_eq_some_iff.mp H
        have A16 := ak A160; clear A160; obtain ⟨t472, A170, H⟩ := Option.bind_eq_some_iff.mp H
        have A17 := ak A170; clear A170
        by_cases c18 : t472 = 0
        ·rw [if_pos c18] at H
         have c18b0 : (t472 == 0) = true := beq_iff_eq.mpr c18; have c18b1 : (t472 != 0) = false := bne_eq_false_iff_eq.mpr c18; clear c18
         revert H; refine ig_ fun c19 H => ?_
         have LMc19 := ak c19; clear c19; obtain ⟨y474, hy474⟩ : ∃ y_ : List (S37), y_ = (x4_2 ++ [(⟨(rd_T37 t461 x6_2).f0, (rd_T37 t461 x6_2).f1⟩ : S37)]) := ⟨_, rfl⟩
         replace H : (spec_CellsToStand.l0 k2 l0 y474 t461 (wrap64 (x6_2 + 1))) = some (r1, r2) := by first | (rw [hy474]; with_reducible exact H) | (have H2_ := (Option.bind_some _ _).symm.trans H; rw [hy474]; with_reducible exact H2_) | (have H2_ := (Option.bind_some _ _).symm.trans H; with_reducible exact H2_) | with_reducible exact H | (rw [hy474]; exact H) | exact H
         have Ny474 := ak hy474; clear hy474; have H' := ak H; clear H; obtain ⟨Ao20, co20, eo20⟩ := Kd.R_slice HO_5.out; subst eo20; have p464 : 0 ≤ (x6_2 : Int) := dq; have q464 : x6_2 < (t461.length : Int) := dq; obtain ⟨ad464, e464, hx464_0, hx464_1⟩ := at_T37 (Kd.R_reads' HO_5.out).2.2 x6_2 p464 q464; cases e464; replace p464 := eq_true p464; replace q464 := eq_true q464; have p465 : 0 ≤ (x6_2 : Int) := dq; have q465 : x6_2 < (t461.length : Int) := dq; obtain ⟨ad465, e465, hx465_0, hx465_1⟩ := at_T37 (Kd.R_reads' HO_5.out).2.2 x6_2 p465 q465; obtain rfl : ad464 = ad465 := (by injection e465); replace p465 := eq_true p465; replace q465 := eq_true q465
         go_wp2_with (first | (go_at_call 40; (with_reducible refine (spec_l8Put.calls k2 _ _ l0 ((rd_T37 t461 x6_2).f0) ((rd_T37 t461 x6_2).f1) t466 _ ?side1 ?side2 A15.out).mono ?_); (case side1 => exact cq (Kd.C_below HR0.out HB.out)); (case side2 => exact HC0.out); rintro e w21 ⟨v467, rfl, ho0, hb⟩; have n0_ := ak (Kd.R_elder' (rq HO_4) (Kd.R_base ho0) hb); have n1_ := ak (Kd.R_elder' (rq HO_5) (Kd.R_base ho0) hb); have n2_ := ak (Kd.R_lower (Kd.R_new' (Kd.R_new' ho0 (Kd.R_lt (rq HO_4))) (Kd.R_lt (rq HO_5))) (below_size bq)); have n3_ := ak (below_step bq hb); clear HO_4; clear HO_5; clear HB; have HO_4 := n0_; have HO_5 := n1_; have HO468 := n2_; have HB := n3_; clear n0_ n1_ n2_ n3_; (try clear hb); (try clear ho0); obtain ⟨Ao22, co22, eo22⟩ := Kd.R_slice HO468.out; subst eo22) | (go_at_call 39; (with_reducible refine (spec_l8Down.calls k2 _ _ t466 t469 _ ?side1 ?side2 A16.out).mono ?_); (case side1 => exact cq (Kd.R_reads' HO468.out).2.2); (case side2 => exact (Kd.R_reads' HO468.out).2.1); rintro e w23 ⟨v470, rfl, ho0, hb⟩; have n0_ := ak (Kd.R_elder' (rq HO_4) (Kd.R_base ho0) hb); have n1_ := ak (Kd.R_elder' (rq HO_5) (Kd.R_base ho0) hb); have n2_ := ak (Kd.R_elder' (rq HO468) (Kd.R_base ho0) hb); have n3_ := ak (Kd.R_lower (Kd.R_new' (Kd.R_new' (Kd.R_new' ho0 (Kd.R_lt (rq HO_4))) (Kd.R_lt (rq HO_5))) (Kd.R_lt (rq HO468))) (below_size bq)); have n4_ := ak (below_step bq hb); clear HO_4; clear HO_5; clear HO468; clear HB; have HO_4 := n0_; have HO_5 := n1_; have HO468 := n2_; have HO471 := n3_; have HB := n4_; clear n0_ n1_ n2_ n3_ n4_; (try clear hb); (try clear ho0); obtain ⟨Ao24, co24, eo24⟩ := Kd.R_slice HO471.out; subst eo24) | (go_at_call 38; (with_reducible refine (spec_l8Side.calls k2 _ _ t469 t472 _ ?side1 ?side2 A17.out).mono ?_); (case side1 => exact cq (Kd.R_reads' HO471.out).2.2); (case side2 => exact (Kd.R_reads' HO471.out).2.1); rintro e w' ⟨rfl, ⟨nd, rfl⟩⟩; have p473 : 0 ≤ (x6_2 : Int) := dq; have q473 : x6_2 < (t461.length : Int) := dq; obtain ⟨ad473, e473, hx473_0, hx473_1⟩ := at_T37 (Kd.R_reads' HO_5.out).2.2 x6_2 p473 q473; obtain rfl : ad464 = ad473 := (by injection e473); replace p473 := eq_true p473; replace q473 := eq_true q473) | ((with_reducible refine gate_builtin (b := .append) (xs := #[.tmp 42, .tmp 47]) rfl ?_); (try (refine gate_guard (by rfl) ?_; dsimp only)); at_builtin; refine Kd.R_append k37 (w0 := w) w.heap.size rfl (.tmp 42) (.tmp 47) 24 37 (.agg #[(.int .i64 0), (.int .i64 0)]) 16 rfl Tryz.underlying24 info37 rfl (by decide) (by omega) u4 x4_2 (⟨(rd_T37 t461 x6_2).f0, (rd_T37 t461 x6_2).f1⟩ : S37) [.int .i64 ((rd_T37 t461 x6_2).f0), .int .i64 ((rd_T37 t461 x6_2).f1)] (fun k_ => some k_ ≠ (.slice (some ad464) t461.length co20 : Value).ownBlock ∧ some k_ ≠ (.slice Ao22 t466.length co22 : Value).ownBlock ∧ some k_ ≠ (.slice Ao24 t469.length co24 : Value).ownBlock) (fun _ => False) rfl rfl ?aP (fun _ hk => hk.elim) ?aF ?aO ?aB ?aS ?aL ?_; (case aP => exact k37_mkM _ _ _ (⟨(rd_T37 t461 x6_2).f0, (rd_T37 t461 x6_2).f1⟩ : S37)); (case aB => exact bq); (case aF => exact (fun k_ hk => ⟨Kd.fresh' (Kd.R_lt (rq HO_5)) k_ hk, Kd.fresh' (Kd.R_lt (rq HO468)) k_ hk, Kd.fresh' (Kd.R_lt (rq HO471)) k_ hk⟩)); (case aO => exact (by (with_reducible repeat (apply Kd.R_drewN)); exact Kd.R_mono HO_4.out (fun _ hk => ⟨hk.1.1, ⟨hk.1.2, hk.2⟩⟩))); (case aS => exact (below_size bq)); (case aL => have := LMc19.out; omega); intro v475 w25 ho hb hg hat; rw [← Ny474.out] at ho; have n0_ := ak (Kd.R_after (ok := (fun k_ => some k_ ≠ (.slice Ao22 t466.length co22 : Value).ownBlock ∧ some k_ ≠ (.slice Ao24 t469.length co24 : Value).ownBlock)) (by (with_reducible repeat (apply Kd.R_drewN)); exact Kd.R_mono HO_5.out (fun _ hk => ⟨⟨hk.1.2, hk.2⟩, hk.1.1⟩)) hg hat); have n1_ := ak (Kd.R_after (ok := (fun k_ => some k_ ≠ (.slice (some ad464) t461.length co20 : Value).ownBlock ∧ some k_ ≠ (.slice Ao24 t469.length co24 : Value).ownBlock)) (by (with_reducible repeat (apply Kd.R_drewN)); exact Kd.R_mono HO468.out (fun _ hk => ⟨⟨hk.1.2, hk.2⟩, hk.1.1.2⟩)) hg hat); have n2_ := ak (Kd.R_after (ok := (fun k_ => some k_ ≠ (.slice (some ad464) t461.length co20 : Value).ownBlock ∧ some k_ ≠ (.slice Ao22 t466.length co22 : Value).ownBlock)) (by (with_reducible repeat (apply Kd.R_drewN)); exact Kd.R_mono HO471.out (fun _ hk => ⟨⟨hk.1.2, hk.2⟩, hk.1.1.2⟩)) hg hat); have n3_ := ak (hb); have n4_ := ak (ho); clear HO_5; clear HO468; clear HO471; clear HB; clear HO_4; have HO_5 := n0_; have HO468 := n1_; have HO471 := n2_; have HB := n3_; have HO476 := n4_; clear n0_ n1_ n2_ n3_ n4_; clear ho hb hg hat))
         go_roundg k2
         case measure => have := HJ1.out; have := HK2.out; omega
         case rel => exact ⟨(y474), (wrap64 (x6_2 + 1)), sq, H', ⟨by have := HJ1.out; have := HK2.out; omega⟩, ⟨by exact Kd.R_mono HO476.out (fun _ hk => hk.1)⟩, ⟨by exact Kd.R_mono HO_5.out (fun _ hk => hk.2)⟩, ⟨bq⟩⟩
        ·rw [if_neg c18] at H
         have c18b0 : (t472 == 0) = false := beq_eq_false_iff_ne.mpr c18; have c18b1 : (t472 != 0) = true := bne_iff_ne.mpr c18; have H' := ak H; clear H; obtain ⟨Ao26, co26, eo26⟩ := Kd.R_slice HO_5.out; subst eo26; have p464 : 0 ≤ (x6_2 : Int) := dq; have q464 : x6_2 < (t461.length : Int) := dq; obtain ⟨ad464, e464, hx464_0, hx464_1⟩ := at_T37 (Kd.R_reads' HO_5.out).2.2 x6_2 p464 q464; cases e464; replace p464 := eq_true p464; replace q464 := eq_true q464; have p465 : 0 ≤ (x6_2 : Int) := dq; have q465 : x6_2 < (t461.length : Int) := dq; obtain ⟨ad465, e465, hx465_0, hx465_1⟩ := at_T37 (Kd.R_reads' HO_5.out).2.2 x6_2 p465 q465; obtain rfl : ad464 = ad465 := (by injection e465); replace p465 := eq_true p465; replace q465 := eq_true q465
         go_wp2_with (first | (go_at_call 40; (with_reducible refine (spec_l8Put.calls k2 _ _ l0 ((rd_T37 t461 x6_2).f0) ((rd_T37 t461 x6_2).f1) t466 _ ?side1 ?side2 A15.out).mono ?_); (case side1 => exact cq (Kd.C_below HR0.out HB.out)); (case side2 => exact HC0.out); rintro e w27 ⟨v467, rfl, ho0, hb⟩; have n0_ := ak (Kd.R_elder' (rq HO_4) (Kd.R_base ho0) hb); have n1_ := ak (Kd.R_elder' (rq HO_5) (Kd.R_base ho0) hb); have n2_ := ak (Kd.R_lower (Kd.R_new' (Kd.R_new' ho0 (Kd.R_lt (rq HO_4))) (Kd.R_lt (rq HO_5))) (below_size bq)); have n3_ := ak (below_step bq hb); clear HO_4; clear HO_5; clear HB; have HO_4 := n0_; have HO_5 := n1_; have HO468 := n2_; have HB := n3_; clear n0_ n1_ n2_ n3_; (try clear hb); (try clear ho0); obtain ⟨Ao28, co28, eo28⟩ := Kd.R_slice HO468.out; subst eo28) | (go_at_call 39; (with_reducible refine (spec_l8Down.calls k2 _ _ t466 t469 _ ?side1 ?side2 A16.out).mono ?_); (case side1 => exact cq (Kd.R_reads' HO468.out).2.2); (case side2 => exact (Kd.R_reads' HO468.out).2.1); rintro e w29 ⟨v470, rfl, ho0, hb⟩; have n0_ := ak (Kd.R_elder' (rq HO_4) (Kd.R_base ho0) hb); have n1_ := ak (Kd.R_elder' (rq HO_5) (Kd.R_base ho0) hb); have n2_ := ak (Kd.R_elder' (rq HO468) (Kd.R_base ho0) hb); have n3_ := ak (Kd.R_lower (Kd.R_new' (Kd.R_new' (Kd.R_new' ho0 (Kd.R_lt (rq HO_4))) (Kd.R_lt (rq HO_5))) (Kd.R_lt (rq HO468))) (below_size bq)); have n4_ := ak (below_step bq hb); clear HO_4; clear HO_5; clear HO468; clear HB; have HO_4 := n0_; have HO_5 := n1_; have HO468 := n2_; have HO471 := n3_; have HB := n4_; clear n0_ n1_ n2_ n3_ n4_; (try clear hb); (try clear ho0); obtain ⟨Ao30, co30, eo30⟩ := Kd.R_slice HO471.out; subst eo30) | (go_at_call 38; (with_reducible refine (spec_l8Side.calls k2 _ _ t469 t472 _ ?side1 ?side2 A17.out).mono ?_); (case side1 => exact cq (Kd.R_reads' HO471.out).2.2); (case side2 => exact (Kd.R_reads' HO471.out).2.1); rintro e w' ⟨rfl, ⟨nd, rfl⟩⟩))
         go_roundg k2
         case measure => have := HJ1.out; have := HK2.out; omega
         case rel => exact ⟨(x4_2), (wrap64 (x6_2 + 1)), sq, H', ⟨by have := HJ1.out; have := HK2.out; omega⟩, ⟨by (with_reducible repeat (apply Kd.R_drewN)); exact Kd.R_mono HO_4.out (fun _ hk => hk.1.1)⟩, ⟨by (with_reducible repeat (apply Kd.R_drewN)); exact Kd.R_mono HO_5.out (fun _ hk => hk.1.1)⟩, ⟨bq⟩⟩
       ·rw [if_neg c14] at H
        have c14b0 : decide (0 ≤ ((rd_T37 t461 x6_2).f1)) = false := decide_eq_false c14; clear c14; have H' := ak H; clear H; obtain ⟨Ao31, co31, eo31⟩ := Kd.R_slice HO_5.out; subst eo31; have p464 : 0 ≤ (x6_2 : Int) := dq; have q464 : x6_2 < (t461.length : Int) := dq; obtain ⟨ad464, e464, hx464_0, hx464_1⟩ := at_T37 (Kd.R_reads' HO_5.out).2.2 x6_2 p464 q464; cases e464; replace p464 := eq_true p464; replace q464 := eq_true q464; go_wp2; go_roundg k2
        case measure => have := HJ1.out; have := HK2.out; omega
        case rel => exact ⟨(x4_2), (wrap64 (x6_2 + 1)), sq, H', ⟨by have := HJ1.out; have := HK2.out; omega⟩, ⟨rq HO_4⟩, ⟨rq HO_5⟩, ⟨bq⟩⟩
      ·rw [if_neg c12] at H
       have c12b0 := decide_eq_false c12; clear c12; simp only [Option.some.injEq, Prod.mk.injEq] at H; obtain ⟨rfl, rfl⟩ := H; obtain ⟨Ao32, co32, eo32⟩ := Kd.R_slice HO_5.out; subst eo32; go_wp2
       go_ret2
       exact ⟨_, eq_, by exact Kd.R_mono HO_4.out (fun _ hk => trivial), bq⟩
section
attribute [local go_sem high] eqA37
/-! ### laws_rCells: function 15 -/
def laws_rCells.l0 : Nat → List (S37) → List (S37) → Int → Option (Bool)
 | 0, _, _, _ => none
 | k + 1, x0, x1, x5 => if x5 < (x0.length : Int) then (if 0 ≤ x5 then (if x5 < (x1.length : Int) then (if (!(((rd_T37 x0 x5).f0) == ((rd_T37 x1 x5).f0)) || (!(((rd_T37 x0 x5).f1) == ((rd_T37 x1 x5).f1)))) = true then (some false) else (laws_rCells.l0 k x0 x1 (wrap64 (x5 + 1)))) else (none)) else (none)) else (some true)
def laws_rCells.f (k : Nat) (l0 : List (S37)) (l1 : List (S37)) : Option (Bool) := if (l0.length : Int) = (l1.length : Int) then (laws_rCells.l0 k l0 l1 0) else (some false)
theorem laws_rCells.calls (k : Nat) (A0 : Option Addr) (c0 : Nat) (l0 : List (S37)) (A1 : Option Addr) (c1 : Nat) (l1 : List (S37)) (r : Bool) (w : World) (hr0 : Kd.C k37 w A0 l0.length l0) (hc0 : l0.length ≤ c0) (hr1 : Kd.C k37 w A1 l1.length l1) (hc1 : l1.length ≤ c1) (h : laws_rCells.f k l0 l1 = some r) :
  Calls Tryz.prog 15 #[.slice A0 l0.length c0, .slice A1 l1.length c1] w fun e w' => e = .returned (.bool r) ∧ Drawn0 w w' := by
 have hu37 := Tryz.underlying37; have HR0 := ak hr0; have HC0 := ak hc0; clear hr0 hc0; have HR1 := ak hr1; have HC1 := ak hc1; clear hr1 hc1; have H : (if (l0.length : Int) = (l1.length : Int) then (laws_rCells.l0 k l0 l1 0) else (some false)) = some r := h; clear h
 by_cases c3 : (l0.length : Int) = (l1.length : Int)
 ·rw [if_pos c3] at H
  have c3b0 : ((l0.length : Int) == (l1.length : Int)) = true := beq_iff_eq.mpr c3; have c3b1 : ((l0.length : Int) != (l1.length : Int)) = false := bne_eq_false_iff_eq.mpr c3
  have c3b2 : (l0.length == l1.length) = true := by first | simpa using c3 | (simp at c3 ⊢; omega)
  clear c3; have H' := ak H; clear H
  go_enter Tryz.func15, Tryz.ntmps15
  go_wp2
  repeat (go_quiet (fail); try go_wp2)
  go_loopg [5] k (fun kq v5 w' => ∃ (x5_1 : Int), v5 = .int .i64 x5_1 ∧ Aside0 (laws_rCells.l0 kq l0 l1 x5_1 = some r) ∧ Aside0 (kq ≤ k) ∧ Drawn0 w w')
  case atStart => exact ⟨(0), sq, H', ⟨Nat.le_refl _⟩, by repeat (exact Drawn0.refl _)⟩
  case round =>
   clear H'; (try clear c3b0); (try clear c3b1); (try clear c3b2); obtain ⟨x5_1, rfl, HA, HK1, ⟨m1, rfl⟩⟩ := hrel
   cases gk with
   | zero => exact absurd HA.out (by simp [laws_rCells.l0])
   | succ k1 =>
    have H := HA.out; clear HA; simp only [laws_rCells.l0] at H
    by_cases c4 : x5_1 < (l0.length : Int)
    ·rw [if_pos c4] at H
     have c4b0 := decide_eq_true c4; clear c4
     revert H; refine ig_ fun c5 H => ?_
     have c5b0 := decide_eq_true c5; clear c5
     revert H; refine ig_ fun c6 H => ?_
     have c6b0 := decide_eq_true c6; clear c6
     by_cases c7 : (!(((rd_T37 l0 x5_1).f0) == ((rd_T37 l1 x5_1).f0)) || (!(((rd_T37 l0 x5_1).f1) == ((rd_T37 l1 x5_1).f1)))) = true
     ·rw [if_pos c7] at H
      have c7b0 : (!(((rd_T37 l0 x5_1).f0) == ((rd_T37 l1 x5_1).f0)) || (!(((rd_T37 l0 x5_1).f1) == ((rd_T37 l1 x5_1).f1)))) = true := c7; clear c7; obtain rfl := Option.some.inj H; have p477 : 0 ≤ (x5_1 : Int) := dq; have q477 : x5_1 < (l0.length : Int) := dq; obtain ⟨ad477, e477, hx477_0, hx477_1⟩ := at_T37 HR0.out x5_1 p477 q477; cases e477; replace p477 := eq_true p477; replace q477 := eq_true q477; have p478 : 0 ≤ (x5_1 : Int) := dq; have q478 : x5_1 < (l1.length : Int) := dq; obtain ⟨ad478, e478, hx478_0, hx478_1⟩ := at_T37 HR1.out x5_1 p478 q478; cases e478; replace p478 := eq_true p478; replace q478 := eq_true q478; go_wp2
      repeat (go_quiet (fail); try go_wp2)
      go_ret; exact ⟨sq, by repeat (first | exact Drawn0.refl _ | apply Drawn0.step)⟩
     ·rw [if_neg c7] at H
      have c7b0 : (!(((rd_T37 l0 x5_1).f0) == ((rd_T37 l1 x5_1).f0)) || (!(((rd_T37 l0 x5_1).f1) == ((rd_T37 l1 x5_1).f1)))) = false := by simpa using c7
      clear c7; have H' := ak H; clear H; have p477 : 0 ≤ (x5_1 : Int) := dq; have q477 : x5_1 < (l0.length : Int) := dq; obtain ⟨ad477, e477, hx477_0, hx477_1⟩ := at_T37 HR0.out x5_1 p477 q477; cases e477; replace p477 := eq_true p477; replace q477 := eq_true q477; have p478 : 0 ≤ (x5_1 : Int) := dq; have q478 : x5_1 < (l1.length : Int) := dq; obtain ⟨ad478, e478, hx478_0, hx478_1⟩ := at_T37 HR1.out x5_1 p478 q478; cases e478; replace p478 := eq_true p478; replace q478 := eq_true q478; go_wp2
      repeat (go_quiet (fail); try go_wp2)
      go_roundg k1
      case measure => have := HK1.out; omega
      case rel => exact ⟨(wrap64 (x5_1 + 1)), sq, H', ⟨by have := HK1.out; omega⟩, by repeat (first | exact Drawn0.refl _ | apply Drawn0.step)⟩
    ·rw [if_neg c4] at H
     have c4b0 := decide_eq_false c4; clear c4; obtain rfl := Option.some.inj H; go_wp2
     repeat (go_quiet (fail); try go_wp2)
     go_ret; exact ⟨sq, by repeat (first | exact Drawn0.refl _ | apply Drawn0.step)⟩
 ·rw [if_neg c3] at H
  have c3b0 : ((l0.length : Int) == (l1.length : Int)) = false := beq_eq_false_iff_ne.mpr c3; have c3b1 : ((l0.length : Int) != (l1.length : Int)) = true := bne_iff_ne.mpr c3
  have c3b2 : (l0.length == l1.length) = false := by first | simpa using c3 | (simp at c3 ⊢; omega)
  obtain rfl := Option.some.inj H
  go_enter Tryz.func15, Tryz.ntmps15
  go_wp2
  repeat (go_quiet (fail); try go_wp2)
  go_ret; exact ⟨sq, by repeat (exact Drawn0.refl _)⟩
/-! ### spec_DrawCountBodies: function 16 -/
def spec_DrawCountBodies.f (l0 : List Int) : Option (Int) := (spec_l1Cur_among.f l0 0 0 (([3, 4, 2, 5, 1, 6, 0, 7, (-1)] : List Int))).bind fun bt483 => (some bt483.1)
theorem spec_DrawCountBodies.calls (A0 : Option Addr) (c0 : Nat) (l0 : List Int) (r : Int) (w : World) (hr0 : Kd.C (Kd.int .u8) w A0 l0.length l0) (hc0 : l0.length ≤ c0) (h : spec_DrawCountBodies.f l0 = some r) :
  Calls Tryz.prog 16 #[.slice A0 l0.length c0] w fun e w' => e = .returned (.int .i64 r) ∧ Below w.heap.size w w' := by
 have hu56 := Tryz.underlying56; have HR0 := ak hr0; have HC0 := ak hc0; clear hr0 hc0; have HB := ak (Below.refl w.heap.size w); have H : ((spec_l1Cur_among.f l0 0 0 (([3, 4, 2, 5, 1, 6, 0, 7, (-1)] : List Int))).bind fun bt483 => (some bt483.1)) = some r := h; clear h; obtain ⟨y480, hy480⟩ : ∃ y_ : List Int, y_ = (([3, 4, 2, 5, 1, 6, 0, 7, (-1)] : List Int)) := ⟨_, rfl⟩
 replace H : ((spec_l1Cur_among.f l0 0 0 y480).bind fun bt483 => (some bt483.1)) = some r := by first | (rw [hy480]; with_reducible exact H) | (have H2_ := (Option.bind_some _ _).symm.trans H; rw [hy480]; with_reducible exact H2_) | (have H2_ := (Option.bind_some _ _).symm.trans H; with_reducible exact H2_) | with_reducible exact H | (rw [hy480]; exact H) | exact H
 have Ny480 := ak hy480; clear hy480; obtain ⟨⟨t483, t484, t485⟩, A20, H⟩ := Option.bind_eq_some_iff.mp H
 (try dsimp only at H)
 have A2 := ak A20; clear A20; obtain rfl := Option.some.inj H
 go_enter Tryz.func16, Tryz.ntmps16
 go_wp2_with (first | ((with_reducible refine gate_dst (N := 6) rfl ?_); refine box_event ?hg (N := 6) ?hd (cs := #[.slice A0 l0.length c0, .int .i64 0, .int .u64 0]) (t := 56) ?hr ?_; (case hd => rfl); (case hg => rfl); (case hr => (go_simp; done)); intro gb479 hg w3 hbox hb; have n0_ := ak (below_step bq hb); have n1_ := ak ((by rw [hg]; exact (below_size bq) : w.heap.size ≤ gb479)); have n2_ := ak ((by rw [hg]; exact (below_size bq) : w.heap.size ≤ gb479)); have n3_ := ak ((show IsS56 w _ gb479 l0 0 0 from ⟨_, _, hbox, (by rw [hg]; exact (below_size bq) : w.heap.size ≤ gb479), (HR0.out)⟩)); clear HB; have HB := n0_; have GW479 := n1_; have GE479 := n2_; have HI479 := n3_; clear n0_ n1_ n2_ n3_; clear hb hbox hg) | ((with_reducible refine gate_dst (N := 8) rfl ?_); refine Kd.R_lit (Kd.int .i64) _ 3 ?hg (N := 8) ?hd (xs := ([3, 4, 2, 5, 1, 6, 0, 7, (-1)] : List Int)) (inner := [.int .i64 3, .int .i64 4, .int .i64 2, .int .i64 5, .int .i64 1, .int .i64 6, .int .i64 0, .int .i64 7, .int .i64 (-1)]) (ok := fun _ => True) (okp := fun _ => True) ?hr ?hp (fun _ hk => hk) trivial (Below.refl _ _) (Nat.le_refl _) (by simp) ?_; (case hd => rfl); (case hg => rfl); (case hr => (go_simp; done)); (case hp => exact (Reps.one (show Kd.M (Kd.int .i64) _ _ _ 3 [.int .i64 3] from rfl) (Reps.one (show Kd.M (Kd.int .i64) _ _ _ 4 [.int .i64 4] from rfl) (Reps.one (show Kd.M (Kd.int .i64) _ _ _ 2 [.int .i64 2] from rfl) (Reps.one (show Kd.M (Kd.int .i64) _ _ _ 5 [.int .i64 5] from rfl) (Reps.one (show Kd.M (Kd.int .i64) _ _ _ 1 [.int .i64 1] from rfl) (Reps.one (show Kd.M (Kd.int .i64) _ _ _ 6 [.int .i64 6] from rfl) (Reps.one (show Kd.M (Kd.int .i64) _ _ _ 0 [.int .i64 0] from rfl) (Reps.one (show Kd.M (Kd.int .i64) _ _ _ 7 [.int .i64 7] from rfl) (Reps.one (show Kd.M (Kd.int .i64) _ _ _ (-1) [.int .i64 (-1)] from rfl) (Reps.none _ _))))))))))); intro v481 w4 ho5 hb hg_ hnew_; clear hg_ hnew_; (rw [← Ny480.out] at ho5); have n0_ := ak (Kd.R_lower ho5 (below_size (by repeat ((with_reducible exact HB.out))))); have n1_ := ak (IsS56.below (by repeat ((with_reducible exact HI479.out))) hb); have n2_ := ak (below_step (by repeat ((with_reducible exact HB.out))) hb); clear HI479; clear HB; have HO482 := n0_; have HI479 := n1_; have HB := n2_; clear n0_ n1_ n2_; clear hb ho5; obtain ⟨Ao6, co6, eo6⟩ := Kd.R_slice HO482.out; subst eo6) | ((with_reducible refine gate_callee (f := 41) rfl ?_); refine goesL_ (some 9) rfl rfl Tryz.func41 (by kernel_rfl) rfl #[.pointer (some ⟨gb479, 0, none⟩), .slice Ao6 y480.length co6] rfl aq ?_; (with_reducible refine (spec_l1Cur_among.calls gb479 l0 0 0 _ _ y480 t483 t484 t485 w _ ?side1 ?side2 ?side3 ?side4 ?side5 A2.out).mono ?_); (case side1 => repeat ((with_reducible exact HI479.out))); (case side2 => repeat ((with_reducible exact HB.out))); (case side3 => exact cq (Kd.R_reads' HO482.out).2.2); (case side4 => exact (Kd.R_reads' HO482.out).2.1); (case side5 => exact far_slice (IsS56.own_ne HI479.out HO482.out (by decide))); rintro e w7 ⟨rfl, hi, hb, hk⟩; refine ⟨_, rfl, ?_⟩; have n0_ := ak (Kd.R_mono (Kd.R_keep (IsS56.apart (show IsS56 w _ gb479 l0 0 0 from by repeat ((with_reducible exact HI479.out))) (rq HO482) (by decide)) hk (fun _ h => h.2)) (fun _ h => h.1)); have n1_ := ak (hb); have n2_ := ak (hi); clear HO482; clear HB; clear HI479; have HO482 := n0_; have HB := n1_; have HI479 := n2_; clear n0_ n1_ n2_; (try clear hb); (try clear hk); (try clear hi)))
 go_ret; exact ⟨eq_, by repeat ((with_reducible exact HB.out))⟩
/-! ### slices_CompareFunc_compareCells: function 44 -/
def slices_CompareFunc_compareCells.l0 : Nat → List (S37) → List (S37) → List (S37) → Int → Int → Option (Int)
 | 0, _, _, _, _, _ => none
 | k + 1, x0, x1, x11, x12, x13 => if x13 < x12 then (if 0 ≤ x13 then (if x13 < (x11.length : Int) then (if x13 ≥ (x1.length : Int) then (some 1) else (if x13 < (x1.length : Int) then ((impl_compareCells.f k ((rd_T37 x11 x13).f0) ((rd_T37 x11 x13).f1) ((rd_T37 x1 x13).f0) ((rd_T37 x1 x13).f1)).bind fun t490 => (if t490 = 0 then (slices_CompareFunc_compareCells.l0 k x0 x1 x11 x12 (wrap64 (x13 + 1))) else (some t490))) else (none))) else (none)) else (none)) else (if (x0.length : Int) < (x1.length : Int) then (some (-1)) else (some 0))
def slices_CompareFunc_compareCells.f (k : Nat) (l0 : List (S37)) (l1 : List (S37)) : Option (Int) := slices_CompareFunc_compareCells.l0 k l0 l1 l0 (l0.length : Int) 0
theorem slices_CompareFunc_compareCells.mono_l : ∀ k, (∀ y0 y1 y2 y3 y4, LeO (slices_CompareFunc_compareCells.l0 k y0 y1 y2 y3 y4) (slices_CompareFunc_compareCells.l0 (k + 1) y0 y1 y2 y3 y4))
 | 0 => fun _ _ _ _ _ r h => by simp [slices_CompareFunc_compareCells.l0] at h
 | k + 1 => by
  have ih0 := slices_CompareFunc_compareCells.mono_l k
  ·intro y0 y1 y2 y3 y4
   unfold slices_CompareFunc_compareCells.l0
   repeat' first
   | (with_reducible exact ih0 _ _ _ _ _)
   | (with_reducible exact impl_compareCells.mono _ _ _ _ _)
   | (with_reducible exact LeO.refl _)
   | (with_reducible exact LeO.none _)
   | (with_reducible refine LeO.ite ?_ ?_)
   | (with_reducible refine LeO.bind ?_ (fun _ => ?_))
/-! ### impl_CountBodies_1: function 43 -/
def impl_CountBodies_1.f (k : Nat) (l0 : List (S37)) (l1 : List (S37)) : Option (Int) := (slices_CompareFunc_compareCells.f k l0 l1).bind fun t491 => (some t491)
end
section
attribute [local go_sem high] eqA37
/-! ### slices_Equal: function 47 -/
def slices_Equal.l0 : Nat → List (S37) → List (S37) → Int → Int → Option (Bool)
 | 0, _, _, _, _ => none
 | k + 1, x0, x1, x12, x13 => if x13 < x12 then (if 0 ≤ x13 then (if x13 < (x0.length : Int) then (if x13 < (x1.length : Int) then (if (!(((rd_T37 x0 x13).f0) == ((rd_T37 x1 x13).f0)) || (!(((rd_T37 x0 x13).f1) == ((rd_T37 x1 x13).f1)))) = true then (some false) else (slices_Equal.l0 k x0 x1 x12 (wrap64 (x13 + 1)))) else (none)) else (none)) else (none)) else (some true)
def slices_Equal.f (k : Nat) (l0 : List (S37)) (l1 : List (S37)) : Option (Bool) := if (l0.length : Int) = (l1.length : Int) then (slices_Equal.l0 k l0 l1 (l0.length : Int) 0) else (some false)
theorem slices_Equal.calls (k : Nat) (A0 : Option Addr) (c0 : Nat) (l0 : List (S37)) (A1 : Option Addr) (c1 : Nat) (l1 : List (S37)) (r : Bool) (w : World) (hr0 : Kd.C k37 w A0 l0.length l0) (hc0 : l0.length ≤ c0) (hr1 : Kd.C k37 w A1 l1.length l1) (hc1 : l1.length ≤ c1) (h : slices_Equal.f k l0 l1 = some r) :
  Calls Tryz.prog 47 #[.slice A0 l0.length c0, .slice A1 l1.length c1] w fun e w' => e = .returned (.bool r) ∧ Drawn0 w w' := by
 have hu37 := Tryz.underlying37; have HR0 := ak hr0; have HC0 := ak hc0; clear hr0 hc0; have HR1 := ak hr1; have HC1 := ak hc1; clear hr1 hc1; have H : (if (l0.length : Int) = (l1.length : Int) then (slices_Equal.l0 k l0 l1 (l0.length : Int) 0) else (some false)) = some r := h; clear h
 by_cases c3 : (l0.length : Int) = (l1.length : Int)
 ·rw [if_pos c3] at H
  have c3b0 : ((l0.length : Int) == (l1.length : Int)) = true := beq_iff_eq.mpr c3; have c3b1 : ((l0.length : Int) != (l1.length : Int)) = false := bne_eq_false_iff_eq.mpr c3
  have c3b2 : (l0.length == l1.length) = true := by first | simpa using c3 | (simp at c3 ⊢; omega)
  clear c3; have H' := ak H; clear H
  go_enter Tryz.func47, Tryz.ntmps47
  go_wp2
  repeat (go_quiet (fail); try go_wp2)
  go_loopg [13] k (fun kq v13 w' => ∃ (x13_1 : Int), v13 = .int .i64 x13_1 ∧ Aside0 (slices_Equal.l0 kq l0 l1 (l0.length : Int) x13_1 = some r) ∧ Aside0 (kq ≤ k) ∧ Drawn0 w w')
  case atStart => exact ⟨(0), sq, H', ⟨Nat.le_refl _⟩, by repeat (exact Drawn0.refl _)⟩
  case round =>
   clear H'; (try clear c3b0); (try clear c3b1); (try clear c3b2); obtain ⟨x13_1, rfl, HA, HK1, ⟨m1, rfl⟩⟩ := hrel
   cases gk with
   | zero => exact absurd HA.out (by simp [slices_Equal.l0])
   | succ k1 =>
    have H := HA.out; clear HA; simp only [slices_Equal.l0] at H
    by_cases c4 : x13_1 < (l0.length : Int)
    ·rw [if_pos c4] at H
     have c4b0 := decide_eq_true c4; clear c4
     revert H; refine ig_ fun c5 H => ?_
     have c5b0 := decide_eq_true c5; clear c5
     revert H; refine ig_ fun c6 H => ?_
     have c6b0 := decide_eq_true c6; clear c6
     revert H; refine ig_ fun c7 H => ?_
     have c7b0 := decide_eq_true c7; clear c7
     by_cases c8 : (!(((rd_T37 l0 x13_1).f0) == ((rd_T37 l1 x13_1).f0)) || (!(((rd_T37 l0 x13_1).f1) == ((rd_T37 l1 x13_1).f1)))) = true
     ·rw [if_pos c8] at H
      have c8b0 : (!(((rd_T37 l0 x13_1).f0) == ((rd_T37 l1 x13_1).f0)) || (!(((rd_T37 l0 x13_1).f1) == ((rd_T37 l1 x13_1).f1)))) = true := c8; clear c8; obtain rfl := Option.some.inj H; have p492 : 0 ≤ (x13_1 : Int) := dq; have q492 : x13_1 < (l0.length : Int) := dq; obtain ⟨ad492, e492, hx492_0, hx492_1⟩ := at_T37 HR0.out x13_1 p492 q492; cases e492; replace p492 := eq_true p492; replace q492 := eq_true q492; have p493 : 0 ≤ (x13_1 : Int) := dq; have q493 : x13_1 < (l1.length : Int) := dq; obtain ⟨ad493, e493, hx493_0, hx493_1⟩ := at_T37 HR1.out x13_1 p493 q493; cases e493; replace p493 := eq_true p493; replace q493 := eq_true q493; go_wp2
      repeat (go_quiet (fail); try go_wp2)
      go_ret; exact ⟨sq, by repeat (first | exact Drawn0.refl _ | apply Drawn0.step)⟩
     ·rw [if_neg c8] at H
      have c8b0 : (!(((rd_T37 l0 x13_1).f0) == ((rd_T37 l1 x13_1).f0)) || (!(((rd_T37 l0 x13_1).f1) == ((rd_T37 l1 x13_1).f1)))) = false := by simpa using c8
      clear c8; have H' := ak H; clear H; have p492 : 0 ≤ (x13_1 : Int) := dq; have q492 : x13_1 < (l0.length : Int) := dq; obtain ⟨ad492, e492, hx492_0, hx492_1⟩ := at_T37 HR0.out x13_1 p492 q492; cases e492; replace p492 := eq_true p492; replace q492 := eq_true q492; have p493 : 0 ≤ (x13_1 : Int) := dq; have q493 : x13_1 < (l1.length : Int) := dq; obtain ⟨ad493, e493, hx493_0, hx493_1⟩ := at_T37 HR1.out x13_1 p493 q493; cases e493; replace p493 := eq_true p493; replace q493 := eq_true q493; go_wp2
      repeat (go_quiet (fail); try go_wp2)
      go_roundg k1
      case measure => have := HK1.out; omega
      case rel => exact ⟨(wrap64 (x13_1 + 1)), sq, H', ⟨by have := HK1.out; omega⟩, by repeat (first | exact Drawn0.refl _ | apply Drawn0.step)⟩
    ·rw [if_neg c4] at H
     have c4b0 := decide_eq_false c4; clear c4; obtain rfl := Option.some.inj H; go_wp2
     repeat (go_quiet (fail); try go_wp2)
     go_ret; exact ⟨sq, by repeat (first | exact Drawn0.refl _ | apply Drawn0.step)⟩
 ·rw [if_neg c3] at H
  have c3b0 : ((l0.length : Int) == (l1.length : Int)) = false := beq_eq_false_iff_ne.mpr c3; have c3b1 : ((l0.length : Int) != (l1.length : Int)) = true := bne_iff_ne.mpr c3
  have c3b2 : (l0.length == l1.length) = false := by first | simpa using c3 | (simp at c3 ⊢; omega)
  obtain rfl := Option.some.inj H
  go_enter Tryz.func47, Tryz.ntmps47
  go_wp2
  repeat (go_quiet (fail); try go_wp2)
  go_ret; exact ⟨sq, by repeat (exact Drawn0.refl _)⟩
/-! ### impl_CountBodies_2: function 46 -/
def impl_CountBodies_2.f (k : Nat) (l0 : List (S37)) (l1 : List (S37)) : Option (Bool) := (slices_Equal.f k l0 l1).bind fun t494 => (some t494)
theorem impl_CountBodies_2.calls (k : Nat) (A0 : Option Addr) (c0 : Nat) (l0 : List (S37)) (A1 : Option Addr) (c1 : Nat) (l1 : List (S37)) (r : Bool) (w : World) (hr0 : Kd.C k37 w A0 l0.length l0) (hc0 : l0.length ≤ c0) (hr1 : Kd.C k37 w A1 l1.length l1) (hc1 : l1.length ≤ c1) (h : impl_CountBodies_2.f k l0 l1 = some r) :
  Calls Tryz.prog 46 #[.slice A0 l0.length c0, .slice A1 l1.length c1] w fun e w' => e = .returned (.bool r) ∧ Drawn0 w w' := by
 have HR0 := ak hr0; have HC0 := ak hc0; clear hr0 hc0; have HR1 := ak hr1; have HC1 := ak hc1; clear hr1 hc1; have H : ((slices_Equal.f k l0 l1).bind fun t494 => (some t494)) = some r := h; clear h; obtain ⟨t494, A30, H⟩ := Option.bind_eq_some_iff.mp H
 have A3 := ak A30; clear A30; obtain rfl := Option.some.inj H
 go_enter Tryz.func46, Tryz.ntmps46
 go_wp2_with (((with_reducible refine gate_callee (f := 47) rfl ?_); refine goesL_ (some 7) rfl rfl Tryz.func47 (by kernel_rfl) rfl #[.slice A0 l0.length c0, .slice A1 l1.length c1] rfl aq ?_; (with_reducible refine (slices_Equal.calls k _ _ l0 _ _ l1 t494 _ ?side1 ?side2 ?side3 ?side4 A3.out).mono ?_); (case side1 => exact cq HR0.out); (case side2 => exact HC0.out); (case side3 => exact cq HR1.out); (case side4 => exact HC1.out); rintro e w' ⟨rfl, ⟨nd, rfl⟩⟩; refine ⟨_, rfl, ?_⟩))
 go_ret; exact ⟨sq, by repeat (first | exact Drawn0.refl _ | apply Drawn0.step)⟩
end
/-! ### slices_SortFunc_CountBodies_1: function 42, by hand -/
-- needs 43
/-! below, and no fewer draws -/
structure BelowG (n : Nat) (w w' : World) : Prop where
 b : Below n w w'
 d : w.drawn ≤ w'.drawn
theorem BelowG.refl (n : Nat) (w : World) : BelowG n w w := ⟨Below.refl _ _, Nat.le_refl _⟩
theorem belowG_alloc {w w1 : World} (h : BelowG w.heap.size w w1) (o : Obj) : BelowG w.heap.size w (w1.alloc o) := ⟨below_alloc h.b o, h.d⟩
theorem belowG_drew1 {n : Nat} {w w1 : World} (h : BelowG n w w1) : BelowG n w w1.drew := ⟨below_drew1 h.b, Nat.le_trans h.d (Nat.le_succ _)⟩
theorem belowG_drewN {n : Nat} {w w1 : World} (h : BelowG n w w1) (m : Nat) : BelowG n w (w1.drewN m) := ⟨pw_below_drewN h.b m, Nat.le_trans h.d (Nat.le_add_right _ _)⟩
theorem belowG_size {w w1 : World} (h : BelowG w.heap.size w w1) : w.heap.size ≤ w1.heap.size := below_size h.b
theorem belowG_step {w w1 w2 : World} (h : BelowG w.heap.size w w1) (k : BelowG w1.heap.size w1 w2) : BelowG w.heap.size w w2 := ⟨below_step h.b k.b, Nat.le_trans h.d k.d⟩
theorem belowG_set {w w1 : World} {g j : Nat} {v : Value} (h : BelowG w.heap.size w w1) (hg : w.heap.size ≤ g) : BelowG w.heap.size w (w1.setCell ⟨g, j, none⟩ v) := ⟨below_set h.b hg, h.d⟩
theorem box_eventG {P : Program} {ops : Array Oper} {rest : List Oper} {o : Oper} {a : Act} {Q : Exit → Act → World → Prop} {W : World} (hgd : o.guard = none) {N : Tmp} (_hd : o.dst = some N) {cs : Array Value} {t : TypeId}
  (hrun : (execOp a.eval o).run P W = .ok (.value (.pointer (some ⟨W.heap.size, 0, none⟩))) (W.alloc (.cells cs t (0, 0))))
  (h : ∀ g, g = W.heap.size → ∀ w1, w1.heap[g]? = some (.cells cs t (0, 0)) → BelowG W.heap.size W w1 → wpList P ops Q rest (a.put o.dst (.pointer (some ⟨g, 0, none⟩))) w1) : wpList P ops Q (o :: rest) a W :=
 Kd.event_run hgd hrun (h _ rfl _ (blk_new W _) (belowG_alloc (BelowG.refl _ _) _))
theorem blk_belowG {w w1 : World} {g : Nat} {o : Obj} (h : w.heap[g]? = some o) (hb : BelowG w.heap.size w w1) : w1.heap[g]? = some o := blk_below h hb.b
theorem belowG_grow {w w' : World} (h : BelowG w.heap.size w w') : ∃ q os, w' = Go.Sort.grow (w.drewN q) os := by
 obtain ⟨⟨h1, h2, h3, h4, h5⟩, h6⟩ := h; refine ⟨w'.drawn - w.drawn, w'.heap.extract w.heap.size w'.heap.size, ?_⟩
 have e : w'.heap = w.heap ++ w'.heap.extract w.heap.size w'.heap.size := by
  apply Array.ext_getElem?
  intro i
  by_cases hi : i < w.heap.size
  ·rw [Array.getElem?_append_left hi]; exact h5 i hi
  ·rw [Array.getElem?_append_right (by omega)]
   by_cases hj : i < w'.heap.size
   ·rw [Array.getElem?_extract]
    rw [if_pos (by omega), show w.heap.size + (i - w.heap.size) = i from by omega]
   ·rw [Array.getElem?_eq_none (by omega), Array.getElem?_eq_none (by simp; omega)]
 cases w' with
 | mk heap tape drawn os output =>
  simp only at h1 h2 h3 h4 h6 e ⊢; subst h1 h2 h3
  unfold Go.Sort.grow World.drewN
  simp only [World.mk.injEq, and_true, true_and]; exact ⟨e, by omega⟩
theorem impl_compareCells.callsB (k : Nat) (a0_0 a0_1 a1_0 a1_1 r : Int) (w : World) (h : impl_compareCells.f k a0_0 a0_1 a1_0 a1_1 = some r) :
  Calls Tryz.prog 27 #[.agg #[.int .i64 a0_0, .int .i64 a0_1], .agg #[.int .i64 a1_0, .int .i64 a1_1]] w fun e w' => e = .returned (.int .i64 r) ∧ BelowG w.heap.size w w' :=
 (impl_compareCells.callsG k a0_0 a0_1 a1_0 a1_1 r w h).mono (by
  rintro e w' ⟨rfl, q, os, rfl⟩
  exact ⟨rfl, below_grownC w q os, Nat.le_add_right _ _⟩)
theorem slices_CompareFunc_compareCells.callsB (k : Nat) (A0 : Option Addr) (c0 : Nat) (l0 : List (S37)) (A1 : Option Addr) (c1 : Nat) (l1 : List (S37)) (r : Int) (w : World) (hr0 : Kd.C k37 w A0 l0.length l0) (hc0 : l0.length ≤ c0) (hr1 : Kd.C k37 w A1 l1.length l1) (hc1 : l1.length ≤ c1) (h : slices_CompareFunc_compareCells.f k l0 l1 = some r) :
  Calls Tryz.prog 44 #[.slice A0 l0.length c0, .slice A1 l1.length c1, .func (.func 27) #[] #[]] w fun e w' => e = .returned (.int .i64 r) ∧ BelowG w.heap.size w w' := by
 have hu_ := Tryz.underlying37; have HR0 := ak hr0; have HC0 := ak hc0; clear hr0 hc0; have HR1 := ak hr1; have HC1 := ak hc1; clear hr1 hc1; have HB := ak (BelowG.refl w.heap.size w); have H : (slices_CompareFunc_compareCells.l0 k l0 l1 l0 (l0.length : Int) 0) = some r := h; clear h; have H' := ak H; clear H
 go_enter Tryz.func44, Tryz.ntmps44
 go_wp2
 go_loopg [13] k (fun kq v13 w' => ∃ (x13_1 : Int), v13 = .int .i64 x13_1 ∧ Aside0 (slices_CompareFunc_compareCells.l0 kq l0 l1 l0 (l0.length : Int) x13_1 = some r) ∧ Aside0 (kq ≤ k) ∧ Aside0 (BelowG w.heap.size w w'))
 case atStart => exact ⟨(0), sq, H', ⟨Nat.le_refl _⟩, ⟨by repeat ((with_reducible exact HB.out))⟩⟩
 case round =>
  clear H'; obtain ⟨x13_1, rfl, HA, HK1, HB⟩ := hrel
  cases gk with
  | zero => exact absurd HA.out (by simp [slices_CompareFunc_compareCells.l0])
  | succ k1 =>
   have H := HA.out; clear HA; simp only [slices_CompareFunc_compareCells.l0] at H
   by_cases c3 : x13_1 < (l0.length : Int)
   ·rw [if_pos c3] at H
    have c3b0 := decide_eq_true c3; clear c3
    revert H; refine ig_ fun c4 H => ?_
    have c4b0 := decide_eq_true c4; clear c4
    revert H; refine ig_ fun c5 H => ?_
    have c5b0 := decide_eq_true c5; clear c5
    by_cases c6 : x13_1 ≥ (l1.length : Int)
    ·rw [if_pos c6] at H
     have c6b0 : decide ((l1.length : Int) ≤ x13_1) = true := decide_eq_true c6; clear c6; obtain rfl := Option.some.inj H; have p277 : 0 ≤ (x13_1 : Int) := dq; have q277 : x13_1 < (l0.length : Int) := dq; obtain ⟨ad277, e277, hx277_0, hx277_1⟩ := at_T37 HR0.out x13_1 p277 q277; cases e277; replace hx277_0 := (HB.out.b.cell (World.block_lt_of_cell? w _ hx277_0)).trans hx277_0; replace hx277_1 := (HB.out.b.cell (World.block_lt_of_cell? w _ hx277_1)).trans hx277_1; replace p277 := eq_true p277; replace q277 := eq_true q277
     go_wp2_with (((with_reducible refine gate_dst (N := 8) rfl ?_); refine box_eventG ?hg (N := 8) ?hd (cs := #[.int .i64 0, .int .i64 0]) (t := 37) ?hr ?_; (case hd => rfl); (case hg => rfl); (case hr => (go_simp; done)); intro gb278 hg w7 hbox hb; have n0_ := ak (belowG_step (by repeat ((with_reducible exact HB.out))) hb); have n1_ := ak (hbox); have n2_ := ak ((by rw [hg]; exact (belowG_size (by repeat ((with_reducible exact HB.out)))) : w.heap.size ≤ gb278)); have n3_ := ak ((by rw [hg]; exact (belowG_size (by repeat ((with_reducible exact HB.out)))) : w.heap.size ≤ gb278)); clear HB; have HB := n0_; have BK278 := n1_; have GW278 := n2_; have GE278 := n3_; clear n0_ n1_ n2_ n3_; clear hb hbox hg; have hcz8_0 : w7.cell? ⟨gb278, 0, none⟩ = some (.int .i64 0) := (blk_cell BK278.out 0).trans rfl; have hcz8_1 : w7.cell? ⟨gb278, 1, none⟩ = some (.int .i64 0) := (blk_cell BK278.out 1).trans rfl; have hfz8_0 := blk_frozen BK278.out 0; have hfz8_1 := blk_frozen BK278.out 1))
     go_ret; exact ⟨eq_, by repeat ((with_reducible first | exact HB.out | refine belowG_set ?_ GE278.out))⟩
    ·rw [if_neg c6] at H
     have c6b0 : decide ((l1.length : Int) ≤ x13_1) = false := decide_eq_false c6; clear c6
     revert H; refine ig_ fun c9 H => ?_
     have c9b0 := decide_eq_true c9; clear c9; obtain ⟨t281, A100, H⟩ := Option.bind_eq_some_iff.mp H
     have A10 := ak A100; clear A100
     by_cases c11 : t281 = 0
     ·rw [if_pos c11] at H
      have c11b0 : (t281 == 0) = true := beq_iff_eq.mpr c11; have c11b1 : (t281 != 0) = false := bne_eq_false_iff_eq.mpr c11; clear c11; have H' := ak H; clear H; have p277 : 0 ≤ (x13_1 : Int) := dq; have q277 : x13_1 < (l0.length : Int) := dq; obtain ⟨ad277, e277, hx277_0, hx277_1⟩ := at_T37 HR0.out x13_1 p277 q277; cases e277; replace hx277_0 := (HB.out.b.cell (World.block_lt_of_cell? w _ hx277_0)).trans hx277_0; replace hx277_1 := (HB.out.b.cell (World.block_lt_of_cell? w _ hx277_1)).trans hx277_1; replace p277 := eq_true p277; replace q277 := eq_true q277
      go_wp2_with (first | ((with_reducible refine gate_dst (N := 8) rfl ?_); refine box_eventG ?hg (N := 8) ?hd (cs := #[.int .i64 0, .int .i64 0]) (t := 37) ?hr ?_; (case hd => rfl); (case hg => rfl); (case hr => (go_simp; done)); intro gb278 hg w12 hbox hb; have n0_ := ak (belowG_step (by repeat ((with_reducible exact HB.out))) hb); have n1_ := ak (hbox); have n2_ := ak ((by rw [hg]; exact (belowG_size (by repeat ((with_reducible exact HB.out)))) : w.heap.size ≤ gb278)); have n3_ := ak ((by rw [hg]; exact (belowG_size (by repeat ((with_reducible exact HB.out)))) : w.heap.size ≤ gb278)); clear HB; have HB := n0_; have BK278 := n1_; have GW278 := n2_; have GE278 := n3_; clear n0_ n1_ n2_ n3_; clear hb hbox hg; have hcz13_0 : w12.cell? ⟨gb278, 0, none⟩ = some (.int .i64 0) := (blk_cell BK278.out 0).trans rfl; have hcz13_1 : w12.cell? ⟨gb278, 1, none⟩ = some (.int .i64 0) := (blk_cell BK278.out 1).trans rfl; have hfz13_0 := blk_frozen BK278.out 0; have hfz13_1 := blk_frozen BK278.out 1; have p279 : 0 ≤ (x13_1 : Int) := dq; have q279 : x13_1 < (l1.length : Int) := dq; obtain ⟨ad279, e279, hx279_0, hx279_1⟩ := at_T37 HR1.out x13_1 p279 q279; cases e279; have hn279_0 : ad279.block ≠ gb278 := Nat.ne_of_lt (Nat.lt_of_lt_of_le (by have := World.block_lt_of_cell? _ _ hx279_0; rwa [add_block] at this) GW278.out); have hn279_1 : ad279.block ≠ gb278 := Nat.ne_of_lt (Nat.lt_of_lt_of_le (by have := World.block_lt_of_cell? _ _ hx279_0; rwa [add_block] at this) GW278.out); replace hx279_0 := (HB.out.b.cell (World.block_lt_of_cell? w _ hx279_0)).trans hx279_0; replace hx279_1 := (HB.out.b.cell (World.block_lt_of_cell? w _ hx279_1)).trans hx279_1; replace hx279_0 := (cell_far (p := ⟨gb278, 0, none⟩) (by (rw [add_block]; exact hn279_0)) (.int .i64 ((rd_T37 l0 x13_1).f0))).trans hx279_0; replace hx279_1 := (cell_far (p := ⟨gb278, 0, none⟩) (by (rw [add_block]; exact hn279_0)) (.int .i64 ((rd_T37 l0 x13_1).f0))).trans hx279_1; replace hx279_0 := (cell_far (p := ⟨gb278, 1, none⟩) (by (rw [add_block]; exact hn279_1)) (.int .i64 ((rd_T37 l0 x13_1).f1))).trans hx279_0; replace hx279_1 := (cell_far (p := ⟨gb278, 1, none⟩) (by (rw [add_block]; exact hn279_1)) (.int .i64 ((rd_T37 l0 x13_1).f1))).trans hx279_1; clear hn279_0; clear hn279_1; replace p279 := eq_true p279; replace q279 := eq_true q279) | ((with_reducible refine gate_dst (N := 9) rfl ?_); refine box_eventG ?hg (N := 9) ?hd (cs := #[.int .i64 0, .int .i64 0]) (t := 37) ?hr ?_; (case hd => rfl); (case hg => rfl); (case hr => (go_simp; done)); intro gb280 hg w14 hbox hb; have n0_ := ak (blk_belowG (g := gb278) (o := .cells #[.int .i64 ((rd_T37 l0 x13_1).f0), .int .i64 ((rd_T37 l0 x13_1).f1)] 37 (0, 0)) (by refine blk_put (cs := #[.int .i64 ((rd_T37 l0 x13_1).f0), .int .i64 0]) ?_ 1 _ rfl; refine blk_put (cs := #[.int .i64 0, .int .i64 0]) ?_ 0 _ rfl; exact BK278.out) hb); have n1_ := ak (belowG_step (by repeat ((with_reducible first | exact HB.out | refine belowG_set ?_ GE278.out))) hb); have n2_ := ak (hbox); have n3_ := ak ((by rw [hg]; exact (belowG_size (by repeat ((with_reducible first | exact HB.out | refine belowG_set ?_ GE278.out)))) : w.heap.size ≤ gb280)); have n4_ := ak ((by rw [hg]; exact (belowG_size (by repeat ((with_reducible first | exact HB.out | refine belowG_set ?_ GE278.out)))) : w.heap.size ≤ gb280)); have n5_ := ak ((by rw [hg]; exact Nat.ne_of_lt (blk_lt (g := gb278) (o := .cells #[.int .i64 ((rd_T37 l0 x13_1).f0), .int .i64 ((rd_T37 l0 x13_1).f1)] 37 (0, 0)) (by refine blk_put (cs := #[.int .i64 ((rd_T37 l0 x13_1).f0), .int .i64 0]) ?_ 1 _ rfl; refine blk_put (cs := #[.int .i64 0, .int .i64 0]) ?_ 0 _ rfl; exact BK278.out)) : gb278 ≠ gb280)); have n6_ := ak ((by rw [hg]; exact Nat.ne_of_gt (blk_lt (g := gb278) (o := .cells #[.int .i64 ((rd_T37 l0 x13_1).f0), .int .i64 ((rd_T37 l0 x13_1).f1)] 37 (0, 0)) (by refine blk_put (cs := #[.int .i64 ((rd_T37 l0 x13_1).f0), .int .i64 0]) ?_ 1 _ rfl; refine blk_put (cs := #[.int .i64 0, .int .i64 0]) ?_ 0 _ rfl; exact BK278.out)) : gb280 ≠ gb278)); clear BK278; clear HB; have BK278 := n0_; have HB := n1_; have BK280 := n2_; have GW280 := n3_; have GE280 := n4_; have NB278_280 := n5_; have NB280_278 := n6_; clear n0_ n1_ n2_ n3_ n4_ n5_ n6_; clear hb hbox hg; have hnb15 := NB280_278.out; have hnc15 := NB278_280.out; have hcz16_0 : w14.cell? ⟨gb280, 0, none⟩ = some (.int .i64 0) := (blk_cell BK280.out 0).trans rfl; have hcz16_1 : w14.cell? ⟨gb280, 1, none⟩ = some (.int .i64 0) := (blk_cell BK280.out 1).trans rfl; have hfz16_0 := blk_frozen BK280.out 0; have hfz16_1 := blk_frozen BK280.out 1; have hcz17_0 : w14.cell? ⟨gb278, 0, none⟩ = some (.int .i64 ((rd_T37 l0 x13_1).f0)) := (blk_cell BK278.out 0).trans rfl; have hcz17_1 : w14.cell? ⟨gb278, 1, none⟩ = some (.int .i64 ((rd_T37 l0 x13_1).f1)) := (blk_cell BK278.out 1).trans rfl; have hfz17_0 := blk_frozen BK278.out 0; have hfz17_1 := blk_frozen BK278.out 1) | (go_at_call 27; (with_reducible refine (impl_compareCells.callsB k1 ((rd_T37 l0 x13_1).f0) ((rd_T37 l0 x13_1).f1) ((rd_T37 l1 x13_1).f0) ((rd_T37 l1 x13_1).f1) t281 _ A10.out).mono ?_); rintro e w18 ⟨rfl, hb⟩; have n0_ := ak (blk_belowG (g := gb278) (o := .cells #[.int .i64 ((rd_T37 l0 x13_1).f0), .int .i64 ((rd_T37 l0 x13_1).f1)] 37 (0, 0)) (by refine blk_far ?_ NB278_280.out _; refine blk_far ?_ NB278_280.out _; exact BK278.out) hb); have n1_ := ak (blk_belowG (g := gb280) (o := .cells #[.int .i64 ((rd_T37 l1 x13_1).f0), .int .i64 ((rd_T37 l1 x13_1).f1)] 37 (0, 0)) (by refine blk_put (cs := #[.int .i64 ((rd_T37 l1 x13_1).f0), .int .i64 0]) ?_ 1 _ rfl; refine blk_put (cs := #[.int .i64 0, .int .i64 0]) ?_ 0 _ rfl; exact BK280.out) hb); have n2_ := ak (belowG_step (by repeat ((with_reducible first | exact HB.out | refine belowG_set ?_ GE280.out))) hb); clear BK278; clear BK280; clear HB; have BK278 := n0_; have BK280 := n1_; have HB := n2_; clear n0_ n1_ n2_; (try clear hb)))
      go_roundg k1
      case measure => have := HK1.out; omega
      case rel => exact ⟨(wrap64 (x13_1 + 1)), sq, H', ⟨by have := HK1.out; omega⟩, ⟨by repeat ((with_reducible exact HB.out))⟩⟩
     ·rw [if_neg c11] at H
      have c11b0 : (t281 == 0) = false := beq_eq_false_iff_ne.mpr c11; have c11b1 : (t281 != 0) = true := bne_iff_ne.mpr c11; obtain rfl := Option.some.inj H; have p277 : 0 ≤ (x13_1 : Int) := dq; have q277 : x13_1 < (l0.length : Int) := dq; obtain ⟨ad277, e277, hx277_0, hx277_1⟩ := at_T37 HR0.out x13_1 p277 q277; cases e277; replace hx277_0 := (HB.out.b.cell (World.block_lt_of_cell? w _ hx277_0)).trans hx277_0; replace hx277_1 := (HB.out.b.cell (World.block_lt_of_cell? w _ hx277_1)).trans hx277_1; replace p277 := eq_true p277; replace q277 := eq_true q277
      go_wp2_with (first | ((with_reducible refine gate_dst (N := 8) rfl ?_); refine box_eventG ?hg (N := 8) ?hd (cs := #[.int .i64 0, .int .i64 0]) (t := 37) ?hr ?_; (case hd => rfl); (case hg => rfl); (case hr => (go_simp; done)); intro gb278 hg w19 hbox hb; have n0_ := ak (belowG_step (by repeat ((with_reducible exact HB.out))) hb); have n1_ := ak (hbox); have n2_ := ak ((by rw [hg]; exact (belowG_size (by repeat ((with_reducible exact HB.out)))) : w.heap.size ≤ gb278)); have n3_ := ak ((by rw [hg]; exact (belowG_size (by repeat ((with_reducible exact HB.out)))) : w.heap.size ≤ gb278)); clear HB; have HB := n0_; have BK278 := n1_; have GW278 := n2_; have GE278 := n3_; clear n0_ n1_ n2_ n3_; clear hb hbox hg; have hcz20_0 : w19.cell? ⟨gb278, 0, none⟩ = some (.int .i64 0) := (blk_cell BK278.out 0).trans rfl; have hcz20_1 : w19.cell? ⟨gb278, 1, none⟩ = some (.int .i64 0) := (blk_cell BK278.out 1).trans rfl; have hfz20_0 := blk_frozen BK278.out 0; have hfz20_1 := blk_frozen BK278.out 1; have p279 : 0 ≤ (x13_1 : Int) := dq; have q279 : x13_1 < (l1.length : Int) := dq; obtain ⟨ad279, e279, hx279_0, hx279_1⟩ := at_T37 HR1.out x13_1 p279 q279; cases e279; have hn279_0 : ad279.block ≠ gb278 := Nat.ne_of_lt (Nat.lt_of_lt_of_le (by have := World.block_lt_of_cell? _ _ hx279_0; rwa [add_block] at this) GW278.out); have hn279_1 : ad279.block ≠ gb278 := Nat.ne_of_lt (Nat.lt_of_lt_of_le (by have := World.block_lt_of_cell? _ _ hx279_0; rwa [add_block] at this) GW278.out); replace hx279_0 := (HB.out.b.cell (World.block_lt_of_cell? w _ hx279_0)).trans hx279_0; replace hx279_1 := (HB.out.b.cell (World.block_lt_of_cell? w _ hx279_1)).trans hx279_1; replace hx279_0 := (cell_far (p := ⟨gb278, 0, none⟩) (by (rw [add_block]; exact hn279_0)) (.int .i64 ((rd_T37 l0 x13_1).f0))).trans hx279_0; replace hx279_1 := (cell_far (p := ⟨gb278, 0, none⟩) (by (rw [add_block]; exact hn279_0)) (.int .i64 ((rd_T37 l0 x13_1).f0))).trans hx279_1; replace hx279_0 := (cell_far (p := ⟨gb278, 1, none⟩) (by (rw [add_block]; exact hn279_1)) (.int .i64 ((rd_T37 l0 x13_1).f1))).trans hx279_0; replace hx279_1 := (cell_far (p := ⟨gb278, 1, none⟩) (by (rw [add_block]; exact hn279_1)) (.int .i64 ((rd_T37 l0 x13_1).f1))).trans hx279_1; clear hn279_0; clear hn279_1; replace p279 := eq_true p279; replace q279 := eq_true q279) | ((with_reducible refine gate_dst (N := 9) rfl ?_); refine box_eventG ?hg (N := 9) ?hd (cs := #[.int .i64 0, .int .i64 0]) (t := 37) ?hr ?_; (case hd => rfl); (case hg => rfl); (case hr => (go_simp; done)); intro gb280 hg w21 hbox hb; have n0_ := ak (blk_belowG (g := gb278) (o := .cells #[.int .i64 ((rd_T37 l0 x13_1).f0), .int .i64 ((rd_T37 l0 x13_1).f1)] 37 (0, 0)) (by refine blk_put (cs := #[.int .i64 ((rd_T37 l0 x13_1).f0), .int .i64 0]) ?_ 1 _ rfl; refine blk_put (cs := #[.int .i64 0, .int .i64 0]) ?_ 0 _ rfl; exact BK278.out) hb); have n1_ := ak (belowG_step (by repeat ((with_reducible first | exact HB.out | refine belowG_set ?_ GE278.out))) hb); have n2_ := ak (hbox); have n3_ := ak ((by rw [hg]; exact (belowG_size (by repeat ((with_reducible first | exact HB.out | refine belowG_set ?_ GE278.out)))) : w.heap.size ≤ gb280)); have n4_ := ak ((by rw [hg]; exact (belowG_size (by repeat ((with_reducible first | exact HB.out | refine belowG_set ?_ GE278.out)))) : w.heap.size ≤ gb280)); have n5_ := ak ((by rw [hg]; exact Nat.ne_of_lt (blk_lt (g := gb278) (o := .cells #[.int .i64 ((rd_T37 l0 x13_1).f0), .int .i64 ((rd_T37 l0 x13_1).f1)] 37 (0, 0)) (by refine blk_put (cs := #[.int .i64 ((rd_T37 l0 x13_1).f0), .int .i64 0]) ?_ 1 _ rfl; refine blk_put (cs := #[.int .i64 0, .int .i64 0]) ?_ 0 _ rfl; exact BK278.out)) : gb278 ≠ gb280)); have n6_ := ak ((by rw [hg]; exact Nat.ne_of_gt (blk_lt (g := gb278) (o := .cells #[.int .i64 ((rd_T37 l0 x13_1).f0), .int .i64 ((rd_T37 l0 x13_1).f1)] 37 (0, 0)) (by refine blk_put (cs := #[.int .i64 ((rd_T37 l0 x13_1).f0), .int .i64 0]) ?_ 1 _ rfl; refine blk_put (cs := #[.int .i64 0, .int .i64 0]) ?_ 0 _ rfl; exact BK278.out)) : gb280 ≠ gb278)); clear BK278; clear HB; have BK278 := n0_; have HB := n1_; have BK280 := n2_; have GW280 := n3_; have GE280 := n4_; have NB278_280 := n5_; have NB280_278 := n6_; clear n0_ n1_ n2_ n3_ n4_ n5_ n6_; clear hb hbox hg; have hnb22 := NB280_278.out; have hnc22 := NB278_280.out; have hcz23_0 : w21.cell? ⟨gb280, 0, none⟩ = some (.int .i64 0) := (blk_cell BK280.out 0).trans rfl; have hcz23_1 : w21.cell? ⟨gb280, 1, none⟩ = some (.int .i64 0) := (blk_cell BK280.out 1).trans rfl; have hfz23_0 := blk_frozen BK280.out 0; have hfz23_1 := blk_frozen BK280.out 1; have hcz24_0 : w21.cell? ⟨gb278, 0, none⟩ = some (.int .i64 ((rd_T37 l0 x13_1).f0)) := (blk_cell BK278.out 0).trans rfl; have hcz24_1 : w21.cell? ⟨gb278, 1, none⟩ = some (.int .i64 ((rd_T37 l0 x13_1).f1)) := (blk_cell BK278.out 1).trans rfl; have hfz24_0 := blk_frozen BK278.out 0; have hfz24_1 := blk_frozen BK278.out 1) | (go_at_call 27; (with_reducible refine (impl_compareCells.callsB k1 ((rd_T37 l0 x13_1).f0) ((rd_T37 l0 x13_1).f1) ((rd_T37 l1 x13_1).f0) ((rd_T37 l1 x13_1).f1) t281 _ A10.out).mono ?_); rintro e w25 ⟨rfl, hb⟩; have n0_ := ak (blk_belowG (g := gb278) (o := .cells #[.int .i64 ((rd_T37 l0 x13_1).f0), .int .i64 ((rd_T37 l0 x13_1).f1)] 37 (0, 0)) (by refine blk_far ?_ NB278_280.out _; refine blk_far ?_ NB278_280.out _; exact BK278.out) hb); have n1_ := ak (blk_belowG (g := gb280) (o := .cells #[.int .i64 ((rd_T37 l1 x13_1).f0), .int .i64 ((rd_T37 l1 x13_1).f1)] 37 (0, 0)) (by refine blk_put (cs := #[.int .i64 ((rd_T37 l1 x13_1).f0), .int .i64 0]) ?_ 1 _ rfl; refine blk_put (cs := #[.int .i64 0, .int .i64 0]) ?_ 0 _ rfl; exact BK280.out) hb); have n2_ := ak (belowG_step (by repeat ((with_reducible first | exact HB.out | refine belowG_set ?_ GE280.out))) hb); clear BK278; clear BK280; clear HB; have BK278 := n0_; have BK280 := n1_; have HB := n2_; clear n0_ n1_ n2_; (try clear hb)))
      go_ret; exact ⟨eq_, by repeat ((with_reducible exact HB.out))⟩
   ·rw [if_neg c3] at H
    have c3b0 := decide_eq_false c3; clear c3
    by_cases c26 : (l0.length : Int) < (l1.length : Int)
    ·rw [if_pos c26] at H
     have c26b0 := decide_eq_true c26; have c26b1 : decide (l0.length < l1.length) = true := decide_eq_true (Int.ofNat_lt.mp c26); clear c26; obtain rfl := Option.some.inj H; go_wp2; go_ret; exact ⟨eq_, by repeat ((with_reducible exact HB.out))⟩
    ·rw [if_neg c26] at H
     have c26b0 := decide_eq_false c26; have c26b1 : decide (l0.length < l1.length) = false := decide_eq_false (fun h => c26 (Int.ofNat_lt.mpr h)); clear c26; obtain rfl := Option.some.inj H; go_wp2; go_ret; exact ⟨eq_, by repeat ((with_reducible exact HB.out))⟩
theorem impl_CountBodies_1.callsB (k : Nat) (A0 : Option Addr) (c0 : Nat) (l0 : List (S37)) (A1 : Option Addr) (c1 : Nat) (l1 : List (S37)) (r : Int) (w : World) (hr0 : Kd.C k37 w A0 l0.length l0) (hc0 : l0.length ≤ c0) (hr1 : Kd.C k37 w A1 l1.length l1) (hc1 : l1.length ≤ c1) (h : impl_CountBodies_1.f k l0 l1 = some r) :
  Calls Tryz.prog 43 #[.slice A0 l0.length c0, .slice A1 l1.length c1] w fun e w' => e = .returned (.int .i64 r) ∧ BelowG w.heap.size w w' := by
 have HR0 := ak hr0; have HC0 := ak hc0; clear hr0 hc0; have HR1 := ak hr1; have HC1 := ak hc1; clear hr1 hc1; have HB := ak (BelowG.refl w.heap.size w); have H : ((slices_CompareFunc_compareCells.f k l0 l1).bind fun t282 => (some t282)) = some r := h; clear h; obtain ⟨t282, A30, H⟩ := Option.bind_eq_some_iff.mp H
 have A3 := ak A30; clear A30; obtain rfl := Option.some.inj H
 go_enter Tryz.func43, Tryz.ntmps43
 go_wp2_with (((with_reducible refine gate_callee (f := 44) rfl ?_); refine goesL_ (some 7) rfl rfl Tryz.func44 (by kernel_rfl) rfl #[.slice A0 l0.length c0, .slice A1 l1.length c1, .func (.func 27) #[] #[]] rfl aq ?_; (with_reducible refine (slices_CompareFunc_compareCells.callsB k _ _ l0 _ _ l1 t282 _ ?side1 ?side2 ?side3 ?side4 A3.out).mono ?_); (case side1 => exact cq HR0.out); (case side2 => exact HC0.out); (case side3 => exact cq HR1.out); (case side4 => exact HC1.out); rintro e w4 ⟨rfl, hb⟩; refine ⟨_, rfl, ?_⟩; have n0_ := ak (belowG_step (by repeat ((with_reducible exact HB.out))) hb); clear HB; have HB := n0_; clear n0_; (try clear hb)))
 go_ret; exact ⟨eq_, by repeat ((with_reducible exact HB.out))⟩
/-! the order of bodies: by the numbers of their cells, one behind the other -/
def flB : List (S37) → List Int
 | [] => []
 | c :: r => c.f0 :: c.f1 :: flB r
theorem flB_inj : ∀ x y : List (S37), flB x = flB y → x = y := by
 intro x
 induction x with
 | nil => intro y h; cases y with
  | nil => rfl
  | cons b y => simp [flB] at h
 | cons a x ih => intro y h; cases y with
  | nil => simp [flB] at h
  | cons b y =>
   simp only [flB, List.cons.injEq] at h; obtain ⟨h0, h1, h2⟩ := h; rw [ih y h2]; cases a; cases b; simp_all
def lxB : List Int → List Int → Bool
 | a :: x, b :: y => decide (a < b) || (decide (a = b) && lxB x y)
 | [], _ :: _ => true
 | _, [] => false
theorem lxB_irrefl : ∀ x, lxB x x = false := by
 intro x
 induction x with
 | nil => rfl
 | cons a x ih => simp [lxB, ih]
theorem lxB_trans : ∀ x y z, lxB x y = true → lxB y z = true → lxB x z = true := by
 intro x
 induction x with
 | nil => intro y z h1 h2; cases y with
  | nil => simp [lxB] at h1
  | cons b y => cases z with
   | nil => simp [lxB] at h2
   | cons c z => rfl
 | cons a x ih => intro y z h1 h2; cases y with
  | nil => simp [lxB] at h1
  | cons b y => cases z with
   | nil => simp [lxB] at h2
   | cons c z =>
    simp only [lxB, Bool.or_eq_true, Bool.and_eq_true, decide_eq_true_eq] at h1 h2 ⊢
    rcases h1 with h1 | ⟨h1, h1'⟩
    ·rcases h2 with h2 | ⟨h2, h2'⟩
     ·exact Or.inl (by omega)
     ·exact Or.inl (by omega)
    ·rcases h2 with h2 | ⟨h2, h2'⟩
     ·exact Or.inl (by omega)
     ·exact Or.inr ⟨by omega, ih y z h1' h2'⟩
theorem lxB_anti : ∀ x y, lxB x y = false → lxB y x = false → x = y := by
 intro x
 induction x with
 | nil => intro y h1 h2; cases y with
  | nil => rfl
  | cons b y => simp [lxB] at h1
 | cons a x ih => intro y h1 h2; cases y with
  | nil => simp [lxB] at h2
  | cons b y =>
   simp only [lxB, Bool.or_eq_false_iff, Bool.and_eq_false_iff, decide_eq_false_iff_not] at h1 h2
   have hab : a = b := by omega
   subst hab; have e := ih y (h1.2.resolve_left (fun q => q rfl)) (h2.2.resolve_left (fun q => q rfl)); rw [e]
theorem lxB_ntrans (x y z : List Int) (h1 : lxB x y = false) (h2 : lxB y z = false) : lxB x z = false := by
 cases h1' : lxB y x with
 | false => rw [lxB_anti x y h1 h1']; exact h2
 | true =>
  cases h2' : lxB z y with
  | false => rw [← lxB_anti y z h2 h2']; exact h1
  | true =>
   cases h3 : lxB x z with
   | false => rfl
   | true =>
    have := lxB_trans _ _ _ h3 (lxB_trans _ _ _ h2' h1'); rw [lxB_irrefl] at this; cases this
def ltB (x y : List (S37)) : Bool := lxB (flB x) (flB y)
theorem ltB_anti (x y : List (S37)) (h1 : ltB x y = false) (h2 : ltB y x = false) : x = y := flB_inj x y (lxB_anti _ _ h1 h2)
/-- Bodies in order. -/
def sortB (l : List (List (S37))) : List (List (S37)) := l.mergeSort fun x y => !ltB y x
theorem sortB_perm (l : List (List (S37))) : (sortB l).Perm l := List.mergeSort_perm _ _
theorem sortB_sorted (l : List (List (S37))) : (sortB l).Pairwise fun x y => ltB y x = false := by
 have h := List.pairwise_mergeSort (le := fun x y : List (S37) => !ltB y x) (fun a b c h1 h2 => by
  simp only [Bool.not_eq_true'] at h1 h2 ⊢
  exact lxB_ntrans _ _ _ h2 h1) (fun a b => by
  cases h1 : ltB b a with
  | false => rfl
  | true =>
   cases h2 : ltB a b with
   | false => rfl
   | true => have := lxB_trans _ _ _ h1 h2; rw [lxB_irrefl] at this; cases this) l
 exact h.imp (fun q => by simpa using q)
theorem sortB_unique {A l : List (List (S37))} (hp : A.Perm l) (hs : A.Pairwise fun x y => ltB y x = false) : A = sortB l :=
 List.Perm.eq_of_pairwise (le := fun x y => ltB y x = false) (fun a b _ _ h1 h2 => ltB_anti a b h2 h1) hs (sortB_sorted l) (hp.trans (sortB_perm l).symm)
/-! what the closure says -/
def cmB : List (S37) → List (S37) → Int
 | a :: x, b :: y => if cmpC a b = 0 then cmB x y else cmpC a b
 | [], _ :: _ => -1
 | _ :: _, [] => 1
 | [], [] => 0
theorem cmB_lt : ∀ x y : List (S37), decide (cmB x y < 0) = ltB x y := by
 intro x
 induction x with
 | nil => intro y; cases y with
  | nil => rfl
  | cons b y => rfl
 | cons a x ih => intro y; cases y with
  | nil => rfl
  | cons b y =>
   have e := ih y
   unfold ltB at e ⊢
   show decide ((if cmpC a b = 0 then cmB x y else cmpC a b) < 0) = (decide (a.f0 < b.f0) || (decide (a.f0 = b.f0) && (decide (a.f1 < b.f1) || (decide (a.f1 = b.f1) && lxB (flB x) (flB y)))))
   rw [← e]
   unfold cmpC
   by_cases h0 : a.f0 < b.f0
   ·simp [h0]
   ·by_cases h1 : b.f0 < a.f0
    ·have h2 : ¬ a.f0 = b.f0 := by omega
     simp [h0, h1, h2]
    ·have h2 : a.f0 = b.f0 := by omega
     by_cases h3 : a.f1 < b.f1
     ·simp [h2, h3]
     ·by_cases h4 : b.f1 < a.f1
      ·have h5 : ¬ a.f1 = b.f1 := by omega
       simp [h2, h3, h4, h5]
      ·have h5 : a.f1 = b.f1 := by omega
       simp [h2, h5]
theorem rdSort {l : List (S37)} {i : Nat} (h : i < l.length) : rd_T37 l (i : Int) = l[i] := by
 unfold rd_T37; rw [Int.toNat_natCast, List.getD_eq_getElem?_getD, List.getElem?_eq_getElem h]; rfl
theorem compareCells_val' (k : Nat) (x y : S37) : impl_compareCells.f (k + 4) x.f0 x.f1 y.f0 y.f1 = some (cmpC x y) := by
 induction k with
 | zero => exact compareCells_val x y
 | succ k ih => exact impl_compareCells.mono _ _ _ _ _ _ ih
theorem compareFunc_l0 (x y : List (S37)) (hx : x.length ≤ 9223372036854775807) : ∀ d i : Nat, i + d = x.length → i ≤ y.length → ∃ k, slices_CompareFunc_compareCells.l0 k x y x (x.length : Int) (i : Int) = some (cmB (x.drop i) (y.drop i)) := by
 intro d
 induction d with
 | zero =>
  intro i hi hy; have e1 : x.drop i = [] := List.drop_eq_nil_of_le (by omega); refine ⟨1, ?_⟩; simp only [slices_CompareFunc_compareCells.l0]; rw [if_neg (by omega), e1]
  by_cases h : (x.length : Int) < (y.length : Int)
  ·rw [if_pos h, List.drop_eq_getElem_cons (show i < y.length by omega)]; rfl
  ·rw [if_neg h, List.drop_eq_nil_of_le (show y.length ≤ i by omega)]; rfl
 | succ d ih =>
  intro i hi hy
  have h1 : i < x.length := by omega
  by_cases h2 : i < y.length
  ·obtain ⟨k, ih⟩ := ih (i + 1) (by omega) (by omega)
   have hw : wrap64 ((i : Int) + 1) = ((i + 1 : Nat) : Int) := by unfold wrap64; omega
   have up : ∀ m, slices_CompareFunc_compareCells.l0 (k + m) x y x (x.length : Int) ((i + 1 : Nat) : Int) = some (cmB (x.drop (i + 1)) (y.drop (i + 1))) := by
    intro m
    induction m with
    | zero => exact ih
    | succ m ihm => exact slices_CompareFunc_compareCells.mono_l _ _ _ _ _ _ _ ihm
   have u4 := up 4; have v4 := compareCells_val' k x[i] y[i]
   generalize k + 4 = K at u4 v4
   refine ⟨K + 1, ?_⟩; simp only [slices_CompareFunc_compareCells.l0]; rw [if_pos (by omega), if_pos (by omega), if_pos (by omega), if_neg (by omega), if_pos (by omega), rdSort h1, rdSort h2, v4, hw, Option.bind_some, u4, List.drop_eq_getElem_cons h1, List.drop_eq_getElem_cons h2]; simp only [cmB]
   split <;> rfl
  ·refine ⟨1, ?_⟩
   simp only [slices_CompareFunc_compareCells.l0]; rw [if_pos (by omega), if_pos (by omega), if_pos (by omega), if_pos (by omega), List.drop_eq_getElem_cons h1, List.drop_eq_nil_of_le (show y.length ≤ i by omega)]
   rfl
theorem countBodies1_val (x y : List (S37)) (hx : x.length ≤ 9223372036854775807) : ∃ k, impl_CountBodies_1.f k x y = some (cmB x y) := by
 obtain ⟨k, e⟩ := compareFunc_l0 x y hx x.length 0 (by omega) (Nat.zero_le _); refine ⟨k, ?_⟩
 unfold impl_CountBodies_1.f slices_CompareFunc_compareCells.f
 rw [show ((0 : Nat) : Int) = 0 from rfl] at e; rw [e]; rfl
/-! the sort -/
def slices_SortFunc_CountBodies_1.f (l0 : List (List (S37))) : Option (List (List (S37))) := if 0 < l0.length ∧ l0.length < 4611686018427387904 then some (sortB l0) else none
theorem sortB_heap {α : Type} [Inhabited α] (enc : α → Value) {w : World} {g n : Nat} {os : Array Obj} {cur : Array Value} {e : TypeId} {fr : Nat × Nat} (F : Array α) (hb : w.heap[g]? = some (.cells cur e fr)) :
  (Go.Sort.grow (Go.Sort.putRow enc (Go.Sort.ahead w n) g 0 F) os).heap[g]? = some (.cells (Go.Sort.putCells enc 0 F cur) e fr) := by
 have hg : g < w.heap.size := (Array.getElem?_eq_some_iff.1 hb).1; rw [Go.Sort.heap_grow_old _ _ (by simpa [Go.Sort.putRow, Go.Sort.mapBlock, Go.Sort.ahead] using hg)]
 simp [Go.Sort.putRow, Go.Sort.mapBlock, Go.Sort.ahead, Array.getElem?_modify, hb, Go.Sort.onCells]
theorem sortB_grown {α : Type} [Inhabited α] (enc : α → Value) {w : World} {g n : Nat} {os : Array Obj} (F : Array α) : w.grownBy (Go.Sort.grow (Go.Sort.putRow enc (Go.Sort.ahead w n) g 0 F) os) (some g) := by
 refine ⟨rfl, rfl, rfl, by simp [Go.Sort.grow, Go.Sort.putRow, Go.Sort.mapBlock, Go.Sort.ahead], fun k hk hne => ?_⟩; rw [Go.Sort.heap_grow_old _ _ (by simpa [Go.Sort.putRow, Go.Sort.mapBlock, Go.Sort.ahead] using hk)]
 have : g ≠ k := fun e => hne (by rw [e])
 simp [Go.Sort.putRow, Go.Sort.mapBlock, Go.Sort.ahead, Array.getElem?_modify, this]
theorem sortB_cells {α : Type} [Inhabited α] (enc : α → Value) (cur : Array Value) (F : Array α) (h : F.size ≤ cur.size) : (Go.Sort.putCells enc 0 F cur).toList.take F.size = F.toList.map enc := by
 apply List.ext_getElem?
 intro j
 by_cases hj : j < F.size
 ·rw [List.getElem?_take_of_lt hj, Array.getElem?_toList, List.getElem?_map, Array.getElem?_toList, Array.getElem?_eq_getElem hj]
  have h2 : j < cur.size := by omega
  simp [Go.Sort.putCells, hj, h2, getElem!_pos F j hj]
 ·rw [List.getElem?_take_eq_none (by omega), List.getElem?_eq_none (by simpa using hj)]
abbrev kB := Kd.slice 37 k37
/-- What is known of an element: its value, and its list. -/
def EB (w : World) (ok : Nat → Prop) (g : Nat) (x : Value × List (S37)) : Prop := Kd.FK kB w (fun k => ok k ∧ some k ≠ some g) x.2 [x.1]
theorem EB_reads {w W : World} {ok : Nat → Prop} {g : Nat} {x : Value × List (S37)} (h : EB w ok g x) (hW : ∀ k, k < w.heap.size → k ≠ g → W.heap[k]? = w.heap[k]?) : ∃ A c, x.1 = .slice A x.2.length c ∧ x.2.length ≤ c ∧ Kd.C k37 W A x.2.length x.2 := by
 obtain ⟨A, c, he, hl, hF⟩ := Kd.FK_slice_open (Kd.FK_step (W1 := W) h (fun k hk hlt => hW k hlt (fun e => hk.2 (by rw [e]))))
 injection he with he
 exact ⟨A, c, he, hl, Kd.F_now hF⟩
instance instEB (w : World) (ok : Nat → Prop) (g : Nat) : Inhabited { x : Value × List (S37) // EB w ok g x } := ⟨⟨(.slice none 0 0, []), Kd.FK_slice_mk (Nat.le_refl 0) (fun W' _ => ⟨rfl, Nat.zero_le _, fun hp => absurd hp (Nat.lt_irrefl 0)⟩)⟩⟩
theorem slices_SortFunc_CountBodies_1.calls (ok : Nat → Prop) (v : Value) (l r : List (List (S37))) (w0 w : World) (hB : Below w0.heap.size w0 w) (ho : Kd.N kB 24 w w0.heap.size ok v l) (h : slices_SortFunc_CountBodies_1.f l = some r) :
  Calls Tryz.prog 42 #[v, .func (.func 43) #[] #[]] w fun e w' => e = .returned (.tuple #[]) ∧ Kd.N kB 24 w' w0.heap.size ok v r ∧ Below w0.heap.size w0 w' := by
 unfold slices_SortFunc_CountBodies_1.f at h
 by_cases hz : ¬ (0 < l.length ∧ l.length < 4611686018427387904)
 ·rw [if_neg hz] at h; cases h
 have hl := Classical.not_not.1 hz; rw [if_pos hl] at h; obtain rfl := Option.some.inj h; obtain ⟨hown, rows, hrl, ⟨hok, inner, ⟨ho1, ho2⟩, hr⟩, hf⟩ := ho; have hsz : kB.sz = 1 := rfl; rw [hsz] at ho1 ho2 hr
 rcases ho2 with ⟨_, hn⟩ | ⟨g, cap, cur, rfl, hbase, hcur, h1, h2, h3, h4⟩
 ·omega
 have hsz2 : (Kd.raw 1).sz = 1 := rfl; rw [hsz2, Nat.mul_one] at ho1 h3 h4; rw [hsz2] at hr; rw [hrl] at ho1 h1 h4
 have hrow : ∀ j (hj : j < l.length), rows[j]? = some [inner[j]'(by omega)] := by
  intro j hj; have q := hr.2 j (rows[j]'(by omega)) (List.getElem?_eq_getElem (by omega)); have q1 := q.1; rw [Nat.mul_one, List.drop_eq_getElem_cons (by omega)] at q1; rw [List.getElem?_eq_getElem (by omega), ← q1]; rfl
 have hel : ∀ j (hj : j < l.length), EB w ok g (inner[j]'(by omega), l[j]) := by
  intro j hj; exact hf j l[j] _ (List.getElem?_eq_getElem hj) (hrow j hj)
 obtain ⟨E, hE⟩ : ∃ E : List { x : Value × List (S37) // EB w ok g x }, E = List.ofFn (n := l.length) fun j => ⟨(inner[j.1]'(by have := j.2; omega), l[j.1]'j.2), hel j.1 j.2⟩ := ⟨_, rfl⟩
 have hEl : E.length = l.length := by rw [hE]; simp
 have hE0 : ∀ j (hj : j < l.length), (E[j]'(by omega)).1 = (inner[j]'(by omega), l[j]) := by
  intro j hj; subst hE; simp
 obtain ⟨enc, henc⟩ : ∃ enc : { x : Value × List (S37) // EB w ok g x } → Value, enc = fun x => x.1.1 := ⟨_, rfl⟩
 have henc0 : ∀ x, enc x = x.1.1 := fun x => by rw [henc]
 have hmap2 : E.map (fun x => x.1.2) = l := by
  apply List.ext_getElem (by simpa using hEl)
  intro j ha hb; rw [List.getElem_map, hE0 j hb]
 have h1c : OneCell enc := by
  intro x; rw [henc0]; obtain ⟨A, c, e, _⟩ := EB_reads x.2 (fun _ _ _ => rfl); rw [e]; rfl
 have hH : Go.Sort.Holds enc w g 0 E.toArray := by
  intro j hj
  have hj' : j < l.length := by simpa [hEl] using hj
  refine ⟨?_, by simp [World.frozen?, hcur]⟩; rw [getElem!_pos E.toArray j hj, henc0]; have e0 := hE0 j hj'
  have e1 : E.toArray[j] = E[j]'(by omega) := by simp
  rw [e1, e0]
  have q : (cur.toList.take l.length)[j]? = inner[j]? := by rw [h4]
  rw [List.getElem?_take_of_lt hj', Array.getElem?_toList, List.getElem?_eq_getElem (by omega)] at q; simp only [World.cell?, hcur, Nat.zero_add]; simp only [Option.isSome_none, Bool.false_eq_true, if_false]; exact q
 have hblk : g < w.heap.size := (Array.getElem?_eq_some_iff.1 hcur).1; have eg : ∀ args W, (callFunc 43 args).run Tryz.prog W = .ok (.enter 43 args) W := enters_of Tryz.func43 (by kernel_rfl) rfl
 obtain ⟨cf, hcf⟩ : ∃ cf : { x : Value × List (S37) // EB w ok g x } → { x : Value × List (S37) // EB w ok g x } → Int, cf = fun x y => cmB x.1.2 y.1.2 := ⟨_, rfl⟩
 have hlt : ∀ x y, ltOf cf x y = ltB x.1.2 y.1.2 := by
  intro x y
  unfold ltOf
  rw [hcf]; exact cmB_lt _ _
 have hswo : Go.Sort.SWO (ltOf cf) := ⟨fun x => by rw [hlt]; exact lxB_irrefl _, fun x y z a b => by rw [hlt] at *; exact lxB_trans _ _ _ a b, fun x y z a b => by rw [hlt] at *; exact lxB_ntrans _ _ _ a b⟩
 have hcmp : CmpLays1 Tryz.prog 43 #[] enc cf g 0 E.toArray.size w := by
  intro m os dk hs x y; have hgr := sortB_grown (w := w) (g := g) (n := m) (os := os) enc dk
  have hst : ∀ k, k < w.heap.size → k ≠ g → (sortWorld enc w g 0 m dk os).heap[k]? = w.heap[k]? := fun k hk hne => hgr.block k hk (fun q => hne (by injection q))
  obtain ⟨A, c, e1, l1, c1⟩ := EB_reads x.2 hst; obtain ⟨A', c', e2, l2, c2⟩ := EB_reads y.2 hst; obtain ⟨k, hk⟩ := countBodies1_val x.1.2 y.1.2 c1.2.1; have key := impl_CountBodies_1.callsB k A c x.1.2 A' c' y.1.2 (cmB x.1.2 y.1.2) (sortWorld enc w g 0 m dk os) c1 l1 c2 l2 hk; rw [henc0, henc0, e1, e2]; refine key.mono ?_
  rintro e w' ⟨he, hb⟩
  exact ⟨by rw [hcf]; exact he, belowG_grow hb⟩
 have hbig : E.toArray.size < 4611686018427387904 := by simpa [hEl] using hl.2
 have hcon := Any.slices_SortFunc Tryz.sortBodies enc h1c cf hswo 43 #[] g 0 cap E.toArray w eg hcmp hH hblk hbig
 have hcon2 : Calls Tryz.prog 42 #[.slice (some ⟨g, 0, none⟩) l.length cap, .func (.func 43) #[] #[]] w fun e w' => e = .returned (.tuple #[]) ∧ ∃ d' n os, Go.Sort.PermIn 0 E.toArray.size E.toArray d' ∧ Go.Sort.SortedIn (ltOf cf) 0 E.toArray.size d' ∧ w' = sortWorld enc w g 0 n d' os := by
  have e : E.toArray.size = l.length := by simpa using hEl
  rw [← e]; exact hcon
 rw [hrl]; refine hcon2.mono ?_
 rintro e w' ⟨rfl, d', n, os, hp, hs, rfl⟩
 have hds : d'.size = l.length := by rw [hp.1]; simpa using hEl
 have hes : E.toArray.size = l.length := by simpa using hEl
 have hperm : d'.toList.Perm E := by
  have q := hp.2.2; rw [hes] at q; rw [show d'.extract 0 l.length = d' from by rw [← hds]; simp, show E.toArray.extract 0 l.length = E.toArray from by rw [← hes]; simp] at q
  simpa using q
 have hsorted : d'.toList.map (fun x => x.1.2) = sortB l := by
  refine sortB_unique (by rw [← hmap2]; exact hperm.map _) ?_; rw [List.pairwise_map, List.pairwise_iff_getElem]; intro i j hi hj hij
  have hi' : i < d'.size := by simpa using hi
  have hj' : j < d'.size := by simpa using hj
  have q := hs i j (Nat.zero_le _) hij (by rw [hes, ← hds]; exact hj'); rw [hlt, getElem!_pos d' i hi', getElem!_pos d' j hj'] at q; rw [Array.getElem_toList, Array.getElem_toList]; exact q
 have hgr := sortB_grown (w := w) (g := g) (n := n) (os := os) enc d'
 have hdl : d'.toList.length = l.length := by rw [Array.length_toList, hds]
 have hlen : (sortB l).length = l.length := by rw [← hsorted, List.length_map, hdl]
 have hml : (d'.toList.map fun x => [enc x]).length = l.length := by rw [List.length_map, hdl]
 refine ⟨rfl, ⟨fun k hk => hown k (by rw [hrl]; exact hk), d'.toList.map (fun x => [enc x]), by rw [hml, hlen], ⟨fun k hk => hk.symm, d'.toList.map enc, ⟨?_, Or.inr ⟨g, cap, _, ?_, hbase, sortB_heap enc d' hcur, ?_, h2, ?_, ?_⟩⟩, ?_, ?_⟩, ?_⟩, hB.grown hgr hB.size (fun k hk => by cases hk; exact hbase)⟩
 ·rw [hml, List.length_map, hdl]; exact (Nat.mul_one _).symm
 ·rw [hml]
 ·rw [hml]; exact h1
 ·show (Go.Sort.putCells enc 0 d' cur).size = cap * 1
  rw [Nat.mul_one]; simpa [Go.Sort.putCells] using h3
 ·rw [hml]
  show (Go.Sort.putCells enc 0 d' cur).toList.take (l.length * 1) = _
  rw [Nat.mul_one, ← hds]; exact sortB_cells enc cur d' (by omega)
 ·rw [hml, List.length_map, hdl]; exact (Nat.mul_one _).symm
 ·intro i p hip
  rw [List.getElem?_map] at hip; obtain ⟨x, hx, rfl⟩ := Option.map_eq_some_iff.1 hip; have hi : i < d'.toList.length := (List.getElem?_eq_some_iff.1 hx).1
  have ec : ((d'.toList.map enc).drop (i * 1)).take 1 = [enc x] := by
   rw [Nat.mul_one, List.drop_eq_getElem_cons (by simpa using hi), List.getElem_map]; rw [List.getElem?_eq_getElem hi] at hx; rw [Option.some.inj hx]; rfl
  have ec' : ((d'.toList.map enc).drop (i * (Kd.raw kB.sz).sz)).take (Kd.raw kB.sz).sz = [enc x] := ec; exact ⟨ec', by rw [ec']; rfl, fun u hu => by rw [ec'] at hu; rw [List.mem_singleton.1 hu]; exact h1c x⟩
 ·intro j x c hx hc
  rw [← hsorted, List.getElem?_map] at hx; obtain ⟨y, hy, rfl⟩ := Option.map_eq_some_iff.1 hx; rw [List.getElem?_map, hy] at hc; have hc := Option.some.inj hc; subst hc
  show Kd.FK kB _ _ y.1.2 [enc y]
  rw [henc0]; exact Kd.FK_step y.2 (fun k hk hlt => hgr.block k hlt (fun q => hk.2 q))
/-! ### slices_CompactFunc_CountBodies_2: function 45, by hand -/
-- NOTKEPT
def rdBd (xs : List (List (S37))) (i : Int) : List (S37) := xs.getD i.toNat []
mutual
def slices_CompactFunc_CountBodies_2.l0 : Nat → List (List (S37)) → Int → Option (List (List (S37)))
 | 0, _, _ => none
 | k + 1, x0, x3 => if x3 < (x0.length : Int) then (if 0 ≤ x3 then (if 0 ≤ (wrap64 (x3 - 1)) then (if (wrap64 (x3 - 1)) < (x0.length : Int) then ((impl_CountBodies_2.f k (rdBd x0 x3) (rdBd x0 (wrap64 (x3 - 1)))).bind fun t => (if t = true then (slices_CompactFunc_CountBodies_2.l1 k x0 x3 (x3 : Int).toNat (x0.length - (x3 : Int).toNat) 1) else (slices_CompactFunc_CountBodies_2.l0 k x0 (wrap64 (x3 + 1))))) else (none)) else (none)) else (none)) else (some x0)
def slices_CompactFunc_CountBodies_2.l1 : Nat → List (List (S37)) → Int → Nat → Nat → Int → Option (List (List (S37)))
 | 0, _, _, _, _, _ => none
 | k + 1, x0, x3, m4, n4, x5 => if x5 < (n4 : Int) then (if 0 ≤ x5 then (if 0 ≤ (wrap64 (x5 - 1)) then (if (wrap64 (x5 - 1)) < (n4 : Int) then ((impl_CountBodies_2.f k (rdBd (x0.drop m4) x5) (rdBd (x0.drop m4) (wrap64 (x5 - 1)))).bind fun t => (if t = true then (slices_CompactFunc_CountBodies_2.l1 k x0 x3 m4 n4 (wrap64 (x5 + 1))) else (if 0 ≤ x3 then (if x3 < (x0.length : Int) then (slices_CompactFunc_CountBodies_2.l1 k (x0.set (x3 : Int).toNat (rdBd (x0.drop m4) x5)) (wrap64 (x3 + 1)) m4 n4 (wrap64 (x5 + 1))) else (none)) else (none)))) else (none)) else (none)) else (none)) else (if 0 ≤ x3 then (if x3 < (x0.length : Int) then (some (x0.take (x3 : Int).toNat)) else (none)) else (none))
end
def slices_CompactFunc_CountBodies_2.f (k : Nat) (l0 : List (List (S37))) : Option (List (List (S37))) := if (l0.length : Int) < 2 then (some l0) else (slices_CompactFunc_CountBodies_2.l0 k l0 1)
theorem slices_CompactFunc_CountBodies_2.setCells_blk {g : Nat} {t : TypeId} : ∀ (vs : List Value) (o : Nat) {w : World} {cs : Array Value}, w.heap[g]? = some (.cells cs t (0, 0)) → ∃ cs', (w.setCells g o vs).heap[g]? = some (.cells cs' t (0, 0)) ∧ cs'.size = cs.size ∧ (∀ i, i < o → cs'[i]? = cs[i]?) ∧ w.grownBy (w.setCells g o vs) (some g) := by
 intro vs
 induction vs with
 | nil => intro o w cs h; exact ⟨cs, h, rfl, fun _ _ => rfl, ⟨rfl, rfl, rfl, Nat.le_refl _, fun _ _ _ => rfl⟩⟩
 | cons v r ih =>
  intro o w cs h; have h1 := blk_set h o v; obtain ⟨cs', e1, e2, e3, e4⟩ := ih (o + 1) h1; refine ⟨cs', e1, by rw [e2]; simp, fun i hi => ?_, ?_⟩
  ·rw [e3 i (by omega), Array.getElem?_setIfInBounds_ne (by omega)]
  ·have g1 : w.grownBy (w.setCell ⟨g, o, none⟩ v) (some g) := ⟨(Below.setCell (Below.refl 0 w) (Nat.zero_le _) v).os, (Below.setCell (Below.refl 0 w) (Nat.zero_le _) v).tape, (Below.setCell (Below.refl 0 w) (Nat.zero_le _) v).output, by simp, fun k hk hne => Below.heap_setCell w ⟨g, o, none⟩ v k (fun e => hne (by rw [e]))⟩
   exact World.grownBy.trans g1 e4
/-- The cells behind a row's elements are set to zero: the row stays. -/
theorem slices_CompactFunc_CountBodies_2.N_clear {α : Type} (d : Kd α) (hd : d.sz = 1) {W : World} {base e g n c m c2 : Nat} {xs : List α} {ok : Nat → Prop} (t : TypeId) (z : Value) (ht : Tryz.prog.underlying t = some (.slice e)) (hv : ∀ w, (zeroValue e).run Tryz.prog w = .ok z w) (hzs : z.cells.size = 1) (h1 : ∀ u ∈ z.cells, u.oneCell' = true)
  (HO : Kd.N d e W base ok (.slice (some ⟨g, 0, none⟩) n c) xs) (hm : n + m ≤ c) (hm0 : 0 < m) :
  ∃ w1, (∀ ty, (Builtin.clear_ #[t] ty #[.slice (some ⟨g, n, none⟩) m c2]).run Tryz.prog W = .ok (.tuple #[]) w1) ∧ Kd.N d e w1 base ok (.slice (some ⟨g, 0, none⟩) n c) xs ∧ W.grownBy w1 (some g) := by
 obtain ⟨hown, rows, hrl, ⟨hok, inner, ⟨ho1, ho2⟩, hr⟩, hf⟩ := HO; rw [hd] at ho1 ho2 hr; have hs1 : (Kd.raw 1).sz = 1 := rfl; rw [hs1] at ho1 ho2 hr
 rcases ho2 with ⟨hv', _⟩ | ⟨g', cap', cur, hv', hb, hh, h2, hcm, hcs, htake⟩
 ·cases hv'
 injection hv' with ha hn hc
 injection ha with ha
 injection ha with hg
 subst hg; subst hc; subst hn
 have hzl : (Builtin.zeroCells z.cells m).toList.length = m := by simp [Builtin.zeroCells, hzs]
 obtain ⟨cs', e1, e2, e3, e4⟩ := slices_CompactFunc_CountBodies_2.setCells_blk (Builtin.zeroCells z.cells m).toList rows.length hh; rw [Nat.mul_one] at hcs htake
 have hcell : ∀ j, j < m → (W.cell? ⟨g, rows.length + 0 + j, none⟩).isSome = true := by
  intro j hj; rw [blk_cell hh, Array.getElem?_eq_getElem (by rw [hcs]; omega)]; rfl
 refine ⟨W.setCells g rows.length (Builtin.zeroCells z.cells m).toList, fun ty => ?_, ⟨hown, rows, hrl, ⟨hok, inner, ?_⟩, fun j x c hx hc => Kd.FK_step (hf j x c hx hc) (fun k hk hlt => e4.block k hlt (fun q => hk.2 q))⟩, e4⟩
 ·have hst := run_storeCells_cells (P := Tryz.prog) g rows.length (Builtin.zeroCells z.cells m).toList 0 W (by rw [hzl]; exact hcell) (by intro j _; exact blk_frozen hh _) (by
   intro v hv2; simp only [Builtin.zeroCells, Array.toList_map, List.mem_map] at hv2; obtain ⟨i, hi, rfl⟩ := hv2; have hlt : i % z.cells.size < z.cells.size := Nat.mod_lt _ (by omega); rw [getElem!_pos z.cells _ hlt]
   exact h1 _ (Array.getElem_mem hlt))
  simp only [Nat.add_zero] at hst; obtain ⟨m', rfl⟩ : ∃ m', m = m' + 1 := ⟨m - 1, by omega⟩
  simp [Builtin.clear_, run_underlying ht, hv, hst]
 ·rw [hd]
  refine ⟨⟨ho1, Or.inr ⟨g, c, cs', rfl, hb, e1, h2, hcm, by rw [e2, hs1, Nat.mul_one]; exact hcs, ?_⟩⟩, hr⟩; rw [hs1, Nat.mul_one, ← htake]
  apply List.ext_getElem?
  intro i
  by_cases hi : i < rows.length
  ·rw [List.getElem?_take_of_lt hi, List.getElem?_take_of_lt hi, Array.getElem?_toList, Array.getElem?_toList, e3 i hi]
  ·rw [List.getElem?_take_eq_none (by omega), List.getElem?_take_eq_none (by omega)]
theorem slices_CompactFunc_CountBodies_2.zero (w : World) : (zeroValue 24).run Tryz.prog w = .ok (.slice none 0 0) w := by kernel_rfl
/-- Element i: its one cell, the row it leads to, and that row however the world draws. -/
theorem slices_CompactFunc_CountBodies_2.at {W : World} {base g n cap : Nat} {ok : Nat → Prop} {xs : List (List (S37))} (h : Kd.N (Kd.slice 37 k37) 24 W base ok (.slice (some ⟨g, 0, none⟩) n cap) xs) (i : Int) (h0 : 0 ≤ i) (h1 : i < n) :
  ∃ A c, W.cell? ⟨g, i.toNat, none⟩ = some (.slice A (rdBd xs i).length c) ∧ W.frozen? ⟨g, i.toNat, none⟩ = false ∧ (rdBd xs i).length ≤ c ∧ Kd.C k37 W A (rdBd xs i).length (rdBd xs i) ∧ Kd.FK (Kd.slice 37 k37) W (fun k => ok k ∧ k ≠ g) (rdBd xs i) [.slice A (rdBd xs i).length c] := by
 obtain ⟨cs, hcl, hFK, hcc, hfr⟩ := Kd.N_elem h [] i h0 h1; obtain ⟨A, c, rfl, hl, hF⟩ := Kd.FK_slice_open hFK; have hs : (Kd.slice 37 k37).sz = 1 := rfl; have q := hcc 0 _ rfl; have q2 := hfr 0; rw [hs, Nat.mul_one, Nat.add_zero] at q q2; exact ⟨A, c, q, q2, hl, Kd.F_now hF, hFK⟩
theorem slices_CompactFunc_CountBodies_2.put {W : World} {base g n cap : Nat} {ok : Nat → Prop} {xs : List (List (S37))} (h : Kd.N (Kd.slice 37 k37) 24 W base ok (.slice (some ⟨g, 0, none⟩) n cap) xs) (i : Int) (h0 : 0 ≤ i) (h1 : i < n) {x : List (S37)} {u : Value} (hx : Kd.FK (Kd.slice 37 k37) W (fun k => ok k ∧ k ≠ g) x [u]) :
  Kd.N (Kd.slice 37 k37) 24 (W.setCell ⟨g, i.toNat, none⟩ u) base ok (.slice (some ⟨g, 0, none⟩) n cap) (xs.set i.toNat x) ∧ W.grownBy (W.setCell ⟨g, i.toNat, none⟩ u) (some g) := by
 obtain ⟨cs, hcl, hFK, hcc, hfr⟩ := Kd.N_elem h [] i h0 h1; obtain ⟨A, c, rfl, hl, hF⟩ := Kd.FK_slice_open hFK; have hs : (Kd.slice 37 k37).sz = 1 := rfl; have q := Kd.N_seg h i h0 h1 (seg := [u]) (j := 0) hcl hcc (Nat.le_refl 1) (x' := x) (okp := fun k => ok k ∧ k ≠ g) hx (fun _ hk => hk); rw [hs, Nat.mul_one, Nat.add_zero] at q; exact q
theorem slices_CompactFunc_CountBodies_2.calls (k : Nat) (ok : Nat → Prop) (v : Value) (l0 r : List (List (S37))) (w0 w : World) (hB : Below w0.heap.size w0 w) (ho : Kd.N (Kd.slice 37 k37) 24 w w0.heap.size ok v l0) (h : slices_CompactFunc_CountBodies_2.f k l0 = some r) :
  Calls Tryz.prog 45 #[v, .func (.func 46) #[] #[]] w fun e w' => ∃ v0_ : Value, e = .returned (v0_) ∧ Kd.N (Kd.slice 37 k37) 24 w' w0.heap.size ok v0_ r ∧ Below w0.heap.size w0 w' := by
 have HO := ak ho; have HB := ak hB; clear ho hB; have H : (if (l0.length : Int) < 2 then (some l0) else (slices_CompactFunc_CountBodies_2.l0 k l0 1)) = some r := h; clear h
 by_cases c2 : (l0.length : Int) < 2
 ·rw [if_pos c2] at H
  have c2b0 := decide_eq_true c2; have c2b1 : decide (l0.length < 2) = true := decide_eq_true (by omega); clear c2; obtain rfl := Option.some.inj H; obtain ⟨Ao3, co3, eo3⟩ := Kd.N_slice HO.out; subst eo3
  go_enter Tryz.func45, Tryz.ntmps45
  go_wp2
  repeat (go_quiet (fail); try go_wp2)
  go_ret; exact ⟨_, rfl, (by exact HO.out), bq⟩
 ·rw [if_neg c2] at H
  have c2b0 := decide_eq_false c2; have c2b1 : decide (l0.length < 2) = false := decide_eq_false (by omega); obtain ⟨g, cap, rfl, hgb, hgl, hgc⟩ := Kd.N_form HO.out (by omega); have hroom := (Kd.N_reads' HO.out).2.1; have HG := ak hgb; have HR := ak hroom; clear c2 hgb hgl hgc hroom; have H' := ak H; clear H
  go_enter Tryz.func45, Tryz.ntmps45
  go_wp2
  repeat (go_quiet (fail); try go_wp2)
  go_loopg [5] k (fun kq v5 w' => ∃ (x3_1 : Int), v5 = .int .i64 x3_1 ∧ Aside0 (slices_CompactFunc_CountBodies_2.l0 kq l0 x3_1 = some r) ∧ Aside0 (kq ≤ k) ∧ Aside0 (Kd.N (Kd.slice 37 k37) 24 w' w0.heap.size ok (.slice (some ⟨g, 0, none⟩) l0.length cap) l0) ∧ Aside0 (Below w0.heap.size w0 w'))
  case atStart => exact ⟨(1), sq, H', ⟨Nat.le_refl _⟩, ⟨(by exact HO.out)⟩, ⟨bq⟩⟩
  case round =>
   clear H' HO HB; obtain ⟨x3_1, rfl, HA, HK1, HO, HB⟩ := hrel
   cases gk with
   | zero => exact absurd HA.out (by simp [slices_CompactFunc_CountBodies_2.l0])
   | succ k1 =>
    have H := HA.out; clear HA; simp only [slices_CompactFunc_CountBodies_2.l0] at H
    by_cases c5 : x3_1 < (l0.length : Int)
    ·rw [if_pos c5] at H
     have c5b0 := decide_eq_true c5
     revert H; refine ig_ fun c6 H => ?_
     have c6b0 := decide_eq_true c6; obtain ⟨ji7, hji7⟩ : ∃ j_ : Int, (wrap64 (x3_1 - 1)) = j_ := ⟨_, rfl⟩; rw [hji7] at H; have hji7w : (IntKind.i64.wrap (x3_1 - 1)) = ji7 := (i64_w _).trans hji7
     revert H; refine ig_ fun c8 H => ?_
     revert H; refine ig_ fun c9 H => ?_
     obtain ⟨t, A100, H⟩ := Option.bind_eq_some_iff.mp H
     have A10 := ak A100; clear A100; obtain ⟨A1, ca1, hx1, _, hl1, hC1, _⟩ := slices_CompactFunc_CountBodies_2.at HO.out x3_1 c6 c5; obtain ⟨A2, ca2, hx2, _, hl2, hC2, _⟩ := slices_CompactFunc_CountBodies_2.at HO.out ji7 c8 c9; have p1 := eq_true c6; have q1 := eq_true c5; have p2 := eq_true c8; have q2 := eq_true c9
     by_cases c10 : t = true
     ·subst c10
      rw [if_pos rfl] at H
      have hpos : 0 < x3_1 := by
       have e : wrap64 (x3_1 - 1) = ji7 := hji7
       unfold wrap64 at e
       omega
      obtain ⟨m13, hm13⟩ : ∃ m_ : Nat, m_ = (x3_1 : Int).toNat := ⟨_, rfl⟩; obtain ⟨n13, hn13⟩ : ∃ n_ : Nat, n_ = l0.length - m13 := ⟨_, rfl⟩
      have hmx : (m13 : Int) = x3_1 := by omega
      rw [← hm13, ← hn13] at H
      have hml : m13 < l0.length := by omega
      have H' := ak H; clear H; obtain ⟨i013, hi013, _, hsz13, _⟩ := info_parts info24
      have hq13 : (x3_1 : Int) ≤ (l0.length : Int) := by omega
      have hcut13 := cut_from (P := Tryz.prog) 58 24 .i64 Tryz.underlying58 hi013 1 hsz13 (some ⟨g, 0, none⟩) l0.length cap x3_1 c6 hq13; obtain ⟨c13, hc13⟩ : ∃ c1, c1 = cap - m13 := ⟨_, rfl⟩; rw [← hm13, ← hn13, ← hc13, if_neg (by have := HR.out; omega), Option.map_some, add_plain, Nat.mul_one] at hcut13; have KM := ak hml; have KN := ak hn13; clear hi013 hsz13 hc13 hm13 hn13 hmx c5 c6 c8 c9 hpos hml; have hq13t := eq_true hq13; clear hq13
      go_wp2_with (fail)
      repeat (go_quiet ((go_at_call 46; (with_reducible refine (impl_CountBodies_2.calls k1 _ _ (rdBd l0 x3_1) _ _ (rdBd l0 ji7) true _ ?side1 ?side2 ?side3 ?side4 A10.out).mono ?_); (case side1 => exact cq hC1); (case side2 => exact hl1); (case side3 => exact cq hC2); (case side4 => exact hl2); rintro e w' ⟨rfl, ⟨nd, rfl⟩⟩; (try exact ⟨rfl, _, World.drewN_drewN _ _ _⟩))); try go_wp2_with (fail))
      clear hx1 hx2 hC1 hC2 hl1 hl2
      go_loopg [5, 7] k1 (fun kq v5 v7 w' => ∃ (x0_2 : List (List (S37))) (x3_2 : Int) (x5_2 : Int), v5 = .int .i64 x3_2 ∧ v7 = .int .i64 x5_2 ∧ Aside0 (slices_CompactFunc_CountBodies_2.l1 kq x0_2 x3_2 m13 n13 x5_2 = some r) ∧ Aside0 (kq ≤ k1) ∧ Aside0 (Kd.N (Kd.slice 37 k37) 24 w' w0.heap.size ok (.slice (some ⟨g, 0, none⟩) l0.length cap) x0_2) ∧ Aside0 (Below w0.heap.size w0 w'))
      case atStart => exact ⟨(l0), (x3_1), (1), sq, sq, H', ⟨Nat.le_refl _⟩, ⟨(by (with_reducible repeat (apply Kd.N_drewN)); exact HO.out)⟩, ⟨bq⟩⟩
      case round =>
       clear H' HO HB c2b0 c2b1 c5b0 c6b0 p1 q1 p2 q2 hq13t; obtain ⟨x0_2, x3_2, x5_2, rfl, rfl, HA, HK2, HO, HB⟩ := hrel; have HL := ak (Kd.N_reads' HO.out).1
       cases gk with
       | zero => exact absurd HA.out (by simp [slices_CompactFunc_CountBodies_2.l1])
       | succ k2 =>
        have H := HA.out; clear HA; simp only [slices_CompactFunc_CountBodies_2.l1] at H
        by_cases c14 : x5_2 < (n13 : Int)
        ·rw [if_pos c14] at H
         have c14b0 := decide_eq_true c14
         revert H; refine ig_ fun c15 H => ?_
         have c15b0 := decide_eq_true c15; obtain ⟨ji16, hji16⟩ : ∃ j_ : Int, (wrap64 (x5_2 - 1)) = j_ := ⟨_, rfl⟩; rw [hji16] at H; have hji16w : (IntKind.i64.wrap (x5_2 - 1)) = ji16 := (i64_w _).trans hji16
         revert H; refine ig_ fun c17 H => ?_
         revert H; refine ig_ fun c18 H => ?_
         obtain ⟨t2, A190, H⟩ := Option.bind_eq_some_iff.mp H
         have A19 := ak A190; clear A190
         have e15 : rdBd (x0_2.drop m13) x5_2 = rdBd x0_2 ((m13 : Int) + x5_2) := by unfold rdBd; rw [List.getD_eq_getElem?_getD, List.getD_eq_getElem?_getD, List.getElem?_drop, show ((m13 : Int) + x5_2).toNat = m13 + x5_2.toNat from by omega]
         have e16 : rdBd (x0_2.drop m13) ji16 = rdBd x0_2 ((m13 : Int) + ji16) := by unfold rdBd; rw [List.getD_eq_getElem?_getD, List.getD_eq_getElem?_getD, List.getElem?_drop, show ((m13 : Int) + ji16).toNat = m13 + ji16.toNat from by omega]
         obtain ⟨A1, ca1, hx1, hf1, hl1, hC1, hK1_⟩ := slices_CompactFunc_CountBodies_2.at HO.out ((m13 : Int) + x5_2) (by omega) (by have := KM.out; have := KN.out; omega); obtain ⟨A2, ca2, hx2, hf2, hl2, hC2, _⟩ := slices_CompactFunc_CountBodies_2.at HO.out ((m13 : Int) + ji16) (by omega) (by have := KM.out; have := KN.out; omega); rw [show ((m13 : Int) + x5_2).toNat = m13 + x5_2.toNat from by omega] at hx1 hf1; rw [show ((m13 : Int) + ji16).toNat = m13 + ji16.toNat from by omega] at hx2 hf2; rw [← e15] at hx1 hl1 hC1 hK1_; rw [← e16] at hx2 hl2 hC2; clear hf1 hf2 e15 e16; have p1 := eq_true c15; have q1 := eq_true c14; have p2 := eq_true c17; have q2 := eq_true c18
         by_cases c19 : t2 = true
         ·subst c19
          rw [if_pos rfl] at H; have H' := ak H; clear H c14 c15 c17 c18 hK1_
          go_wp2_with (fail)
          repeat (go_quiet ((go_at_call 46; (with_reducible refine (impl_CountBodies_2.calls k2 _ _ (rdBd (x0_2.drop m13) x5_2) _ _ (rdBd (x0_2.drop m13) ji16) true _ ?side1 ?side2 ?side3 ?side4 A19.out).mono ?_); (case side1 => exact cq hC1); (case side2 => exact hl1); (case side3 => exact cq hC2); (case side4 => exact hl2); rintro e w' ⟨rfl, ⟨nd, rfl⟩⟩; (try exact ⟨rfl, _, World.drewN_drewN _ _ _⟩))); try go_wp2_with (fail))
          go_roundg k2
          case measure => have := HK1.out; have := HK2.out; omega
          case rel => exact ⟨(x0_2), (x3_2), (wrap64 (x5_2 + 1)), sq, sq, H', ⟨by have := HK1.out; have := HK2.out; omega⟩, ⟨(by (with_reducible repeat (apply Kd.N_drewN)); exact HO.out)⟩, ⟨bq⟩⟩
         ·replace c19 := Bool.eq_false_iff.mpr c19
          subst c19; rw [if_neg (show ¬ (false = true) by decide)] at H
          revert H; refine ig_ fun c20 H => ?_
          revert H; refine ig_ fun c21 H => ?_
          have c21' : x3_2 < (l0.length : Int) := by have := HL.out; omega
          obtain ⟨y300, hy300⟩ : ∃ y_ : List (List (S37)), y_ = (x0_2.set (x3_2 : Int).toNat (rdBd (x0_2.drop m13) x5_2)) := ⟨_, rfl⟩; rw [← hy300] at H; have Ny300 := ak hy300; have H' := ak H; obtain ⟨A3, ca3, hx3, hf3, _, _, _⟩ := slices_CompactFunc_CountBodies_2.at HO.out x3_2 c20 c21'; have HP := slices_CompactFunc_CountBodies_2.put HO.out x3_2 c20 c21' hK1_; have p3 := eq_true c20; have q3 := eq_true c21'; clear H hy300 c14 c15 c17 c18 c20 c21 c21'
          go_wp2_with (fail)
          repeat (go_quiet ((go_at_call 46; (with_reducible refine (impl_CountBodies_2.calls k2 _ _ (rdBd (x0_2.drop m13) x5_2) _ _ (rdBd (x0_2.drop m13) ji16) false _ ?side1 ?side2 ?side3 ?side4 A19.out).mono ?_); (case side1 => exact cq hC1); (case side2 => exact hl1); (case side3 => exact cq hC2); (case side4 => exact hl2); rintro e w' ⟨rfl, ⟨nd, rfl⟩⟩; (try exact ⟨rfl, _, World.drewN_drewN _ _ _⟩))); try go_wp2_with (fail))
          go_roundg k2
          case measure => have := HK1.out; have := HK2.out; omega
          case rel => exact ⟨(y300), (wrap64 (x3_2 + 1)), (wrap64 (x5_2 + 1)), sq, sq, H', ⟨by have := HK1.out; have := HK2.out; omega⟩, ⟨by rw [Ny300.out]; exact Kd.N_step HP.1 (fun _ _ _ => rfl)⟩, ⟨by have h_ := HB.out.grown HP.2 HB.out.size (fun k hk => by injection hk with hk; subst hk; exact HG.out); exact ⟨h_.os, h_.tape, h_.output, h_.size, h_.block⟩⟩⟩
        ·rw [if_neg c14] at H
         have c14b0 := decide_eq_false c14; clear c14
         revert H; refine ig_ fun c25 H => ?_
         revert H; refine ig_ fun c26 H => ?_
         obtain ⟨i, rfl⟩ := Int.eq_ofNat_of_zero_le c25
         have hi : i < l0.length := by have := HL.out; omega
         rw [Int.toNat_natCast] at H; obtain rfl := Option.some.inj H; clear H; have hroom := HR.out; obtain ⟨i022, hi022, _, hsz22, _⟩ := info_parts info24; have hcut22 := cut_from (P := Tryz.prog) 58 24 .i64 Tryz.underlying58 hi022 1 hsz22 (some ⟨g, 0, none⟩) l0.length cap (i : Int) (by omega) (by omega); have hcut23 := cut_to (P := Tryz.prog) 58 24 .i64 Tryz.underlying58 hi022 (some ⟨g, 0, none⟩) l0.length cap (i : Int) (by omega) (by omega) hroom; have hr23 := Kd.N_take (m := i) HO.out (by have := HL.out; omega); obtain ⟨w2, hclr, ho2, hg2⟩ := slices_CompactFunc_CountBodies_2.N_clear (Kd.slice 37 k37) rfl (n := i) (c2 := cap - i) 58 (.slice none 0 0) Tryz.underlying58 slices_CompactFunc_CountBodies_2.zero rfl (by intro u hu; simp [Value.cells] at hu; rw [hu]; rfl) hr23 (m := l0.length - i) (by omega) (by omega)
         have hne : ¬ cap = i := by omega
         have hle : (i : Int) ≤ (l0.length : Int) := by omega
         rw [Int.toNat_natCast, if_neg hne, Option.map_some, add_plain, Nat.mul_one] at hcut22; rw [Int.toNat_natCast] at hcut23; have HO2 := ak ho2; have HB2 := ak (HB.out.grown hg2 HB.out.size (fun k hk => by injection hk with hk; subst hk; exact HG.out)); clear ho2 hr23 hi022 hsz22 hg2 HO HB; replace c25 := eq_true c25; replace hle := eq_true hle; go_wp2; go_ret; exact ⟨_, rfl, HO2.out, HB2.out⟩
     ·replace c10 := Bool.eq_false_iff.mpr c10
      subst c10; rw [if_neg (show ¬ (false = true) by decide)] at H; have H' := ak H; clear H c5 c6 c8 c9
      go_wp2_with (fail)
      repeat (go_quiet ((go_at_call 46; (with_reducible refine (impl_CountBodies_2.calls k1 _ _ (rdBd l0 x3_1) _ _ (rdBd l0 ji7) false _ ?side1 ?side2 ?side3 ?side4 A10.out).mono ?_); (case side1 => exact cq hC1); (case side2 => exact hl1); (case side3 => exact cq hC2); (case side4 => exact hl2); rintro e w' ⟨rfl, ⟨nd, rfl⟩⟩; (try exact ⟨rfl, _, World.drewN_drewN _ _ _⟩))); try go_wp2_with (fail))
      go_roundg k1
      case measure => have := HK1.out; omega
      case rel => exact ⟨(wrap64 (x3_1 + 1)), sq, H', ⟨by have := HK1.out; omega⟩, ⟨(by (with_reducible repeat (apply Kd.N_drewN)); exact HO.out)⟩, ⟨bq⟩⟩
    ·rw [if_neg c5] at H
     have c5b0 := decide_eq_false c5; clear c5; obtain rfl := Option.some.inj H; go_wp2
     repeat (go_quiet (fail); try go_wp2)
     go_ret; exact ⟨_, rfl, (by exact HO.out), bq⟩
end Go.Proofs.YtckhmeadflafaaaGreat.XFc
