/- Functions of the program as plain Lean functions, each with the proof that the machine's call does what it says: written by a program of this session out of the translation. -/
import Derived.Test.YtckhmeadflafaaaXFbx0
import Derived.Test.YtckhmeadflafaaaXFbx8
import Derived.Test.YtckhmeadflafaaaXFbx11
import Derived.Test.YtckhmeadflafaaaXFbx19
namespace Go.Proofs.Ytckhmeadflafaaa.XFb
open Go.RowKit Go.Proofs.YtckhmeadflafaaaW.PrintWords Go.Proofs.YtckhmeadflafaaaW.PrintLast Go.Proofs.YtckhmeadflafaaaW.PrintMore
attribute [local go_sem] max2_int min2_int max_two min_two max_three min_three max_four min_four   -- for this text's walks alone
set_option linter.unusedVariables false
set_option linter.unusedSimpArgs false

/-! ### impl_PutDown: function 52 -/
def impl_PutDown.l0 : Nat → List (S49) → List (S49) → Int → Int → Option ((List (S49)) × Bool)
 | 0, _, _, _, _ => none
 | k + 1, x0, x11, x12, x13 => if x13 < x12 then (if 0 ≤ x13 then (if x13 < (x11.length : Int) then ((impl_within.f ((rd_T49 x11 x13).f0) (-60) 60).bind fun t568 => (if t568 = true then ((impl_within.f ((rd_T49 x11 x13).f1) (-60) 60).bind fun t569 => (if t569 = true then (impl_PutDown.l0 k x0 x11 x12 (wrap64 (x13 + 1))) else (some (([] : List (S49)), false)))) else (some (([] : List (S49)), false)))) else (none)) else (none)) else ((impl_put.f k x0).bind fun t570 => ((impl_IsBody.f k t570).bind fun t573 => (if t573 = true then (some (t570, true)) else (some (([] : List (S49)), false)))))
def impl_PutDown.f (k : Nat) (l0 : List (S49)) : Option ((List (S49)) × Bool) := (impl_within.f (l0.length : Int) 1 12).bind fun t565 => (if t565 = true then (impl_PutDown.l0 k l0 l0 (l0.length : Int) 0) else (some (([] : List (S49)), false)))
theorem impl_PutDown.mono_l : ∀ k, (∀ y0 y1 y2 y3, LeO (impl_PutDown.l0 k y0 y1 y2 y3) (impl_PutDown.l0 (k + 1) y0 y1 y2 y3))
 | 0 => fun _ _ _ _ r h => by simp [impl_PutDown.l0] at h
 | k + 1 => by
  have ih0 := impl_PutDown.mono_l k
  ·intro y0 y1 y2 y3
   unfold impl_PutDown.l0
   repeat' first
   | (with_reducible exact ih0 _ _ _ _)
   | (with_reducible exact impl_IsBody.mono _ _)
   | (with_reducible exact impl_put.mono _ _)
   | (with_reducible exact LeO.refl _)
   | (with_reducible exact LeO.none _)
   | (with_reducible refine LeO.ite ?_ ?_)
   | (with_reducible refine LeO.bind ?_ (fun _ => ?_))
theorem impl_PutDown.mono : ∀ a0 k, LeO (impl_PutDown.f k a0) (impl_PutDown.f (k + 1) a0) := by
 intro a0 k; have ih0 := impl_PutDown.mono_l k
 unfold impl_PutDown.f
 repeat' first
   | (with_reducible exact ih0 _ _ _ _)
   | (with_reducible exact impl_IsBody.mono _ _)
   | (with_reducible exact impl_put.mono _ _)
   | (with_reducible exact LeO.refl _)
   | (with_reducible exact LeO.none _)
   | (with_reducible refine LeO.ite ?_ ?_)
   | (with_reducible refine LeO.bind ?_ (fun _ => ?_))
set_option maxHeartbeats 8000000 in
set_option maxRecDepth 100000 in
theorem impl_PutDown.calls (k : Nat) (A0 : Option Addr) (c0 : Nat) (l0 : List (S49)) (r1 : List (S49)) (r2 : Bool) (w : World) (hr0 : Kd.C k49 w A0 l0.length l0) (hc0 : l0.length ≤ c0) (h : impl_PutDown.f k l0 = some (r1, r2)) :
  Calls Try.prog 52 #[.slice A0 l0.length c0] w fun e w' => ∃ v0_ : Value, e = .returned (.tuple #[v0_, .bool r2]) ∧ Kd.R k49 49 w' w.heap.size (fun _ => True) v0_ r1 ∧ Below w.heap.size w w' := by
 have hu49 := Try.underlying49; have HR0 := ak hr0; have HC0 := ak hc0; clear hr0 hc0; have HB := ak (Below.refl w.heap.size w); have H : ((impl_within.f (l0.length : Int) 1 12).bind fun t565 => (if t565 = true then (impl_PutDown.l0 k l0 l0 (l0.length : Int) 0) else (some (([] : List (S49)), false)))) = some (r1, r2) := h; clear h; obtain ⟨t565, A20, H⟩ := Option.bind_eq_some_iff.mp H
 have A2 := ak A20; clear A20
 by_cases c3 : t565 = true
 ·subst c3
  rw [if_pos rfl] at H; have H' := ak H; clear H
  go_enter Try.func52, Try.ntmps52
  go_wp2_with (((with_reducible refine gate_callee (f := 69) rfl ?_); refine goesL_ (some 9) rfl rfl Try.func69 (by kernel_rfl) rfl #[.int .i64 (l0.length : Int), .int .i64 1, .int .i64 12] rfl aq ?_; (with_reducible refine (impl_within.calls (l0.length : Int) 1 12 true _ A2.out).mono ?_); rintro e w' ⟨rfl, ⟨nd, rfl⟩⟩; refine ⟨_, rfl, ?_⟩))
  go_loopg [13] k (fun kq v13 w' => ∃ (x13_1 : Int), v13 = .int .i64 x13_1 ∧ Aside0 (impl_PutDown.l0 kq l0 l0 (l0.length : Int) x13_1 = some (r1, r2)) ∧ Aside0 (kq ≤ k) ∧ Aside0 (Below w.heap.size w w'))
  case atStart => exact ⟨(0), sq, H', ⟨Nat.le_refl _⟩, ⟨bq⟩⟩
  case round =>
   clear H'; obtain ⟨x13_1, rfl, HA, HK1, HB⟩ := hrel
   cases gk with
   | zero => exact absurd HA.out (by simp [impl_PutDown.l0])
   | succ k1 =>
    have H := HA.out; clear HA; simp only [impl_PutDown.l0] at H
    by_cases c4 : x13_1 < (l0.length : Int)
    ·rw [if_pos c4] at H
     have c4b0 := decide_eq_true c4; clear c4
     by_cases c5 : 0 ≤ x13_1
     ·rw [if_pos c5] at H
      have c5b0 := decide_eq_true c5; clear c5
      by_cases c6 : x13_1 < (l0.length : Int)
      ·rw [if_pos c6] at H
       have c6b0 := decide_eq_true c6; clear c6; obtain ⟨t568, A70, H⟩ := Option.bind_eq_some_iff.mp H
       have A7 := ak A70; clear A70
       by_cases c8 : t568 = true
       ·subst c8
        rw [if_pos rfl] at H; obtain ⟨t569, A90, H⟩ := Option.bind_eq_some_iff.mp H
        have A9 := ak A90; clear A90
        by_cases c10 : t569 = true
        ·subst c10
         rw [if_pos rfl] at H; have H' := ak H; clear H; have p566 : 0 ≤ (x13_1 : Int) := dq; have q566 : x13_1 < (l0.length : Int) := dq; obtain ⟨ad566, e566, hx566_0, hx566_1⟩ := at_T49 HR0.out x13_1 p566 q566; cases e566; replace hx566_0 := hb_ HB hx566_0; replace hx566_1 := hb_ HB hx566_1; replace p566 := eq_true p566; replace q566 := eq_true q566
         go_wp2_with (first | ((with_reducible refine gate_dst (N := 5) rfl ?_); refine box_event ?hg (N := 5) ?hd (cs := #[.int .i64 0, .int .i64 0]) (t := 49) ?hr ?_; (case hd => rfl); (case hg => rfl); (case hr => (go_simp; done)); intro gb567 hg w11 hbox hb; have n0_ := ak (below_step bq hb); have n1_ := ak (hbox); have n2_ := ak ((by rw [hg]; exact (below_size bq) : w.heap.size ≤ gb567)); have n3_ := ak ((by rw [hg]; exact (below_size bq) : w.heap.size ≤ gb567)); clear HB; have HB := n0_; have BK567 := n1_; have GW567 := n2_; have GE567 := n3_; clear n0_ n1_ n2_ n3_; clear hb hbox hg; have hcz12_0 : w11.cell? ⟨gb567, 0, none⟩ = some (.int .i64 0) := (blk_cell BK567.out 0).trans rfl; have hcz12_1 : w11.cell? ⟨gb567, 1, none⟩ = some (.int .i64 0) := (blk_cell BK567.out 1).trans rfl; have hfz12_0 := blk_frozen BK567.out 0; have hfz12_1 := blk_frozen BK567.out 1) | ((with_reducible refine gate_callee (f := 69) rfl ?_); refine goesL_ (some 19) rfl rfl Try.func69 (by kernel_rfl) rfl #[.int .i64 ((rd_T49 l0 x13_1).f0), .int .i64 (-60), .int .i64 60] rfl aq ?_; (with_reducible refine (impl_within.calls ((rd_T49 l0 x13_1).f0) (-60) 60 true _ A7.out).mono ?_); rintro e w' ⟨rfl, ⟨nd, rfl⟩⟩; refine ⟨_, rfl, ?_⟩) | (go_at_call 69; (with_reducible refine (impl_within.calls ((rd_T49 l0 x13_1).f1) (-60) 60 true _ A9.out).mono ?_); rintro e w' ⟨rfl, ⟨nd, rfl⟩⟩))
         go_roundg k1
         case measure => have := HK1.out; omega
         case rel => exact ⟨(wrap64 (x13_1 + 1)), sq, H', ⟨by have := HK1.out; omega⟩, ⟨bs⟩⟩
        ·replace c10 := Bool.eq_false_iff.mpr c10
         subst c10; rw [if_neg (show ¬ (false = true) by decide)] at H; simp only [Option.some.injEq, Prod.mk.injEq] at H; obtain ⟨rfl, rfl⟩ := H; have p566 : 0 ≤ (x13_1 : Int) := dq; have q566 : x13_1 < (l0.length : Int) := dq; obtain ⟨ad566, e566, hx566_0, hx566_1⟩ := at_T49 HR0.out x13_1 p566 q566; cases e566; replace hx566_0 := hb_ HB hx566_0; replace hx566_1 := hb_ HB hx566_1; replace p566 := eq_true p566; replace q566 := eq_true q566
         go_wp2_with (first | ((with_reducible refine gate_dst (N := 5) rfl ?_); refine box_event ?hg (N := 5) ?hd (cs := #[.int .i64 0, .int .i64 0]) (t := 49) ?hr ?_; (case hd => rfl); (case hg => rfl); (case hr => (go_simp; done)); intro gb567 hg w13 hbox hb; have n0_ := ak (below_step bq hb); have n1_ := ak (hbox); have n2_ := ak ((by rw [hg]; exact (below_size bq) : w.heap.size ≤ gb567)); have n3_ := ak ((by rw [hg]; exact (below_size bq) : w.heap.size ≤ gb567)); clear HB; have HB := n0_; have BK567 := n1_; have GW567 := n2_; have GE567 := n3_; clear n0_ n1_ n2_ n3_; clear hb hbox hg; have hcz14_0 : w13.cell? ⟨gb567, 0, none⟩ = some (.int .i64 0) := (blk_cell BK567.out 0).trans rfl; have hcz14_1 : w13.cell? ⟨gb567, 1, none⟩ = some (.int .i64 0) := (blk_cell BK567.out 1).trans rfl; have hfz14_0 := blk_frozen BK567.out 0; have hfz14_1 := blk_frozen BK567.out 1) | ((with_reducible refine gate_callee (f := 69) rfl ?_); refine goesL_ (some 19) rfl rfl Try.func69 (by kernel_rfl) rfl #[.int .i64 ((rd_T49 l0 x13_1).f0), .int .i64 (-60), .int .i64 60] rfl aq ?_; (with_reducible refine (impl_within.calls ((rd_T49 l0 x13_1).f0) (-60) 60 true _ A7.out).mono ?_); rintro e w' ⟨rfl, ⟨nd, rfl⟩⟩; refine ⟨_, rfl, ?_⟩) | (go_at_call 69; (with_reducible refine (impl_within.calls ((rd_T49 l0 x13_1).f1) (-60) 60 false _ A9.out).mono ?_); rintro e w' ⟨rfl, ⟨nd, rfl⟩⟩))
         go_ret2
         exact ⟨_, eq_, by first | exact Kd.R_nil _ _ _ _ _ | exact Kd.N_nil _ _ _ _ _ | exact Kd.V_nil _ _ _ _ _ | exact Kd.Q_nil _ _ _ _ _ | exact Kd.S_nil _ _ _ _ _, bs⟩
       ·replace c8 := Bool.eq_false_iff.mpr c8
        subst c8; rw [if_neg (show ¬ (false = true) by decide)] at H; simp only [Option.some.injEq, Prod.mk.injEq] at H; obtain ⟨rfl, rfl⟩ := H; have p566 : 0 ≤ (x13_1 : Int) := dq; have q566 : x13_1 < (l0.length : Int) := dq; obtain ⟨ad566, e566, hx566_0, hx566_1⟩ := at_T49 HR0.out x13_1 p566 q566; cases e566; replace hx566_0 := hb_ HB hx566_0; replace hx566_1 := hb_ HB hx566_1; replace p566 := eq_true p566; replace q566 := eq_true q566
        go_wp2_with (first | ((with_reducible refine gate_dst (N := 5) rfl ?_); refine box_event ?hg (N := 5) ?hd (cs := #[.int .i64 0, .int .i64 0]) (t := 49) ?hr ?_; (case hd => rfl); (case hg => rfl); (case hr => (go_simp; done)); intro gb567 hg w15 hbox hb; have n0_ := ak (below_step bq hb); have n1_ := ak (hbox); have n2_ := ak ((by rw [hg]; exact (below_size bq) : w.heap.size ≤ gb567)); have n3_ := ak ((by rw [hg]; exact (below_size bq) : w.heap.size ≤ gb567)); clear HB; have HB := n0_; have BK567 := n1_; have GW567 := n2_; have GE567 := n3_; clear n0_ n1_ n2_ n3_; clear hb hbox hg; have hcz16_0 : w15.cell? ⟨gb567, 0, none⟩ = some (.int .i64 0) := (blk_cell BK567.out 0).trans rfl; have hcz16_1 : w15.cell? ⟨gb567, 1, none⟩ = some (.int .i64 0) := (blk_cell BK567.out 1).trans rfl; have hfz16_0 := blk_frozen BK567.out 0; have hfz16_1 := blk_frozen BK567.out 1) | ((with_reducible refine gate_callee (f := 69) rfl ?_); refine goesL_ (some 19) rfl rfl Try.func69 (by kernel_rfl) rfl #[.int .i64 ((rd_T49 l0 x13_1).f0), .int .i64 (-60), .int .i64 60] rfl aq ?_; (with_reducible refine (impl_within.calls ((rd_T49 l0 x13_1).f0) (-60) 60 false _ A7.out).mono ?_); rintro e w' ⟨rfl, ⟨nd, rfl⟩⟩; refine ⟨_, rfl, ?_⟩))
        go_ret2
        exact ⟨_, eq_, by first | exact Kd.R_nil _ _ _ _ _ | exact Kd.N_nil _ _ _ _ _ | exact Kd.V_nil _ _ _ _ _ | exact Kd.Q_nil _ _ _ _ _ | exact Kd.S_nil _ _ _ _ _, bs⟩
      ·rw [if_neg c6] at H
       exact absurd H (by simp)
     ·rw [if_neg c5] at H
      exact absurd H (by simp)
    ·rw [if_neg c4] at H
     have c4b0 := decide_eq_false c4; clear c4; obtain ⟨t570, A170, H⟩ := Option.bind_eq_some_iff.mp H
     have A17 := ak A170; clear A170; obtain ⟨t573, A180, H⟩ := Option.bind_eq_some_iff.mp H
     have A18 := ak A180; clear A180
     by_cases c19 : t573 = true
     ·subst c19
      rw [if_pos rfl] at H; simp only [Option.some.injEq, Prod.mk.injEq] at H; obtain ⟨rfl, rfl⟩ := H
      go_wp2_with (first | ((with_reducible refine gate_callee (f := 72) rfl ?_); refine goesL_ (some 29) rfl rfl Try.func72 (by kernel_rfl) rfl #[.slice A0 l0.length c0] rfl aq ?_; (with_reducible refine (impl_put.calls k1 _ _ l0 t570 _ ?side1 ?side2 A17.out).mono ?_); (case side1 => exact cq (Kd.C_below HR0.out HB.out)); (case side2 => exact HC0.out); rintro e w20 ⟨v571, rfl, ho0, hb⟩; refine ⟨_, rfl, ?_⟩; have n0_ := ak (Kd.R_lower ho0 (below_size bq)); have n1_ := ak (below_step bq hb); clear HB; have HO572 := n0_; have HB := n1_; clear n0_ n1_; (try clear hb); (try clear ho0); obtain ⟨Ao21, co21, eo21⟩ := Kd.R_slice HO572.out; subst eo21) | ((with_reducible refine gate_callee (f := 34) rfl ?_); refine goesL_ (some 31) rfl rfl Try.func34 (by kernel_rfl) rfl #[.slice Ao21 t570.length co21] rfl aq ?_; (with_reducible refine (impl_IsBody.calls k1 _ _ t570 true _ ?side1 ?side2 A18.out).mono ?_); (case side1 => exact cq (Kd.R_reads' HO572.out).2.2); (case side2 => exact (Kd.R_reads' HO572.out).2.1); rintro e w22 ⟨rfl, hb⟩; refine ⟨_, rfl, ?_⟩; have n0_ := ak (Kd.R_below (rq HO572) hb); have n1_ := ak (below_step bq hb); clear HO572; clear HB; have HO572 := n0_; have HB := n1_; clear n0_ n1_; (try clear hb)))
      go_ret2
      exact ⟨_, eq_, rq HO572, bq⟩
     ·replace c19 := Bool.eq_false_iff.mpr c19
      subst c19; rw [if_neg (show ¬ (false = true) by decide)] at H; simp only [Option.some.injEq, Prod.mk.injEq] at H; obtain ⟨rfl, rfl⟩ := H
      go_wp2_with (first | ((with_reducible refine gate_callee (f := 72) rfl ?_); refine goesL_ (some 29) rfl rfl Try.func72 (by kernel_rfl) rfl #[.slice A0 l0.length c0] rfl aq ?_; (with_reducible refine (impl_put.calls k1 _ _ l0 t570 _ ?side1 ?side2 A17.out).mono ?_); (case side1 => exact cq (Kd.C_below HR0.out HB.out)); (case side2 => exact HC0.out); rintro e w23 ⟨v571, rfl, ho0, hb⟩; refine ⟨_, rfl, ?_⟩; have n0_ := ak (Kd.R_lower ho0 (below_size bq)); have n1_ := ak (below_step bq hb); clear HB; have HO572 := n0_; have HB := n1_; clear n0_ n1_; (try clear hb); (try clear ho0); obtain ⟨Ao24, co24, eo24⟩ := Kd.R_slice HO572.out; subst eo24) | ((with_reducible refine gate_callee (f := 34) rfl ?_); refine goesL_ (some 31) rfl rfl Try.func34 (by kernel_rfl) rfl #[.slice Ao24 t570.length co24] rfl aq ?_; (with_reducible refine (impl_IsBody.calls k1 _ _ t570 false _ ?side1 ?side2 A18.out).mono ?_); (case side1 => exact cq (Kd.R_reads' HO572.out).2.2); (case side2 => exact (Kd.R_reads' HO572.out).2.1); rintro e w25 ⟨rfl, hb⟩; refine ⟨_, rfl, ?_⟩; have n0_ := ak (Kd.R_below (rq HO572) hb); have n1_ := ak (below_step bq hb); clear HO572; clear HB; have HO572 := n0_; have HB := n1_; clear n0_ n1_; (try clear hb)))
      go_ret2
      exact ⟨_, eq_, by first | exact Kd.R_nil _ _ _ _ _ | exact Kd.N_nil _ _ _ _ _ | exact Kd.V_nil _ _ _ _ _ | exact Kd.Q_nil _ _ _ _ _ | exact Kd.S_nil _ _ _ _ _, bq⟩
 ·replace c3 := Bool.eq_false_iff.mpr c3
  subst c3; rw [if_neg (show ¬ (false = true) by decide)] at H; simp only [Option.some.injEq, Prod.mk.injEq] at H; obtain ⟨rfl, rfl⟩ := H
  go_enter Try.func52, Try.ntmps52
  go_wp2_with (((with_reducible refine gate_callee (f := 69) rfl ?_); refine goesL_ (some 9) rfl rfl Try.func69 (by kernel_rfl) rfl #[.int .i64 (l0.length : Int), .int .i64 1, .int .i64 12] rfl aq ?_; (with_reducible refine (impl_within.calls (l0.length : Int) 1 12 false _ A2.out).mono ?_); rintro e w' ⟨rfl, ⟨nd, rfl⟩⟩; refine ⟨_, rfl, ?_⟩))
  go_ret2
  exact ⟨_, eq_, by first | exact Kd.R_nil _ _ _ _ _ | exact Kd.N_nil _ _ _ _ _ | exact Kd.V_nil _ _ _ _ _ | exact Kd.Q_nil _ _ _ _ _ | exact Kd.S_nil _ _ _ _ _, bq⟩

end Go.Proofs.Ytckhmeadflafaaa.XFb
