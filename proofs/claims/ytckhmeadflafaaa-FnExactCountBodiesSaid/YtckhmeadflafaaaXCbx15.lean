/- Functions of the program as plain Lean functions, each with the proof that the machine's call does what it says: written by a program of this session out of the translation. -/
import Derived.Test.YtckhmeadflafaaaXCbx0
import Derived.Test.YtckhmeadflafaaaXCbx1
import Derived.Test.YtckhmeadflafaaaXCbx6
import Derived.Test.YtckhmeadflafaaaXCbx13
import Derived.Test.YtckhmeadflafaaaXCbx14
namespace Go.Proofs.Ytckhmeadflafaaa.XCb
open Go.RowKit Go.Proofs.YtckhmeadflafaaaW.PrintWords Go.Proofs.YtckhmeadflafaaaW.PrintLast Go.Proofs.YtckhmeadflafaaaW.PrintMore
attribute [local go_sem] max2_int min2_int max_two min_two max_three min_three max_four min_four   -- for this text's walks alone
set_option linter.unusedVariables false
set_option linter.unusedSimpArgs false

attribute [local go_sem high] eqA49
/-! ### spec_CountBodies: function 25 -/
def spec_CountBodies.l0 : Nat → List (List (S49)) → Int → Int → Option (Int × Int × Bool)
 | 0, _, _, _ => none
 | k + 1, x5, x6, x7 => if x7 < (x5.length : Int) then (if 0 ≤ x7 then ((spec_l8Side.f k (rd_L3 x5 x7)).bind fun t293 => (if t293 = 0 then (spec_CountBodies.l0 k x5 (wrap64 (x6 + 1)) (wrap64 (x7 + 1))) else (spec_CountBodies.l0 k x5 x6 (wrap64 (x7 + 1))))) else (none)) else (some ((x5.length : Int), x6, true))
def spec_CountBodies.f (k : Nat) (a0 : Int) : Option (Int × Int × Bool) := (spec_l1In.f a0 1 6).bind fun t288 => (if t288 = true then ((spec_l8All.f k a0).bind fun t289 => (spec_CountBodies.l0 k t289 0 0)) else (some (0, 0, false)))
theorem spec_CountBodies.mono_l : ∀ k, (∀ y0 y1 y2, LeO (spec_CountBodies.l0 k y0 y1 y2) (spec_CountBodies.l0 (k + 1) y0 y1 y2))
 | 0 => fun _ _ _ r h => by simp [spec_CountBodies.l0] at h
 | k + 1 => by
  have ih0 := spec_CountBodies.mono_l k
  ·intro y0 y1 y2
   unfold spec_CountBodies.l0
   repeat' first
   | (with_reducible exact ih0 _ _ _)
   | (with_reducible exact spec_l8All.mono _ _)
   | (with_reducible exact spec_l8Side.mono _ _)
   | (with_reducible exact LeO.refl _)
   | (with_reducible exact LeO.none _)
   | (with_reducible refine LeO.ite ?_ ?_)
   | (with_reducible refine LeO.bind ?_ (fun _ => ?_))
theorem spec_CountBodies.mono : ∀ a0 k, LeO (spec_CountBodies.f k a0) (spec_CountBodies.f (k + 1) a0) := by
 intro a0 k; have ih0 := spec_CountBodies.mono_l k
 unfold spec_CountBodies.f
 repeat' first
   | (with_reducible exact ih0 _ _ _)
   | (with_reducible exact spec_l8All.mono _ _)
   | (with_reducible exact spec_l8Side.mono _ _)
   | (with_reducible exact LeO.refl _)
   | (with_reducible exact LeO.none _)
   | (with_reducible refine LeO.ite ?_ ?_)
   | (with_reducible refine LeO.bind ?_ (fun _ => ?_))
set_option maxHeartbeats 8000000 in
set_option maxRecDepth 100000 in
theorem spec_CountBodies.calls (k : Nat) (a0 : Int) (r1 : Int) (r2 : Int) (r3 : Bool) (w : World) (h : spec_CountBodies.f k a0 = some (r1, r2, r3)) :
  Calls Try.prog 25 #[.int .i64 a0] w fun e w' => e = .returned (.tuple #[.int .i64 r1, .int .i64 r2, .bool r3]) ∧ Below w.heap.size w w' := by
 have HB := ak (Below.refl w.heap.size w); have H : ((spec_l1In.f a0 1 6).bind fun t288 => (if t288 = true then ((spec_l8All.f k a0).bind fun t289 => (spec_CountBodies.l0 k t289 0 0)) else (some (0, 0, false)))) = some (r1, r2, r3) := h; clear h; obtain ⟨t288, A20, H⟩ := Option.bind_eq_some_iff.mp H
 (try dsimp only at H)
 have A2 := ak A20; clear A20
 by_cases c3 : t288 = true
 ·subst c3
  rw [if_pos rfl] at H; obtain ⟨t289, A40, H⟩ := Option.bind_eq_some_iff.mp H
  (try dsimp only at H)
  have A4 := ak A40; clear A40; have H' := ak H; clear H
  go_enter Try.func25, Try.ntmps25
  go_wp2_with (first | ((with_reducible refine gate_callee (f := 60) rfl ?_); refine goesL_ (some 9) rfl rfl Try.func60 (by kernel_rfl) rfl #[.int .i64 a0, .int .i64 1, .int .i64 6] rfl aq ?_; (with_reducible refine (spec_l1In.calls a0 1 6 true _ A2.out).mono ?_); rintro e w' ⟨rfl, ⟨nd, rfl⟩⟩; refine ⟨_, rfl, ?_⟩) | ((with_reducible refine gate_callee (f := 78) rfl ?_); refine goesL_ (some 12) rfl rfl Try.func78 (by kernel_rfl) rfl #[.int .i64 a0] rfl aq ?_; (with_reducible refine (spec_l8All.calls k a0 t289 _ A4.out).mono ?_); rintro e w5 ⟨v290, rfl, ho0, hb⟩; refine ⟨_, rfl, ?_⟩; have n0_ := ak (Kd.N_lower (Kd.N_mono (ok' := fun k_ => True) ho0 (fun k_ hk_ => trivial)) (below_size bq)); have n1_ := ak (below_step bq hb); clear HB; have HO291 := n0_; have HB := n1_; clear n0_ n1_; (try clear hb); (try clear hb2); (try clear hk); (try clear hi); (try clear ho0)))
  (try simp only [Act.put, sA, sZ, sS])
  go_loopg [6, 7] k (fun kq v6 v7 w' => ∃ (x6_1 : Int) (x7_1 : Int), v6 = .int .i64 x6_1 ∧ v7 = .int .i64 x7_1 ∧ Aside0 (spec_CountBodies.l0 kq t289 x6_1 x7_1 = some (r1, r2, r3)) ∧ Aside0 (kq ≤ k) ∧ Aside0 (Kd.N (Kd.slice 49 k49) 22 w' w.heap.size (fun _ => True) v290 t289) ∧ Aside0 (Below w.heap.size w w'))
  case atStart => exact ⟨(0), (0), sq, sq, H', ⟨Nat.le_refl _⟩, ⟨by (with_reducible repeat (first | apply Kd.N_alloc | apply Kd.N_drewN | apply Kd.N_drew)); exact HO291.out⟩, ⟨bq⟩⟩
  case round =>
   clear H'; (try clear c2); (try clear p2); (try clear c3); obtain ⟨x6_1, x7_1, rfl, rfl, HA, HK1, HO_5, HB⟩ := hrel
   cases gk with
   | zero => exact absurd HA.out (by simp [spec_CountBodies.l0])
   | succ k1 =>
    have H := HA.out; clear HA; simp only [spec_CountBodies.l0] at H
    by_cases c6 : x7_1 < (t289.length : Int)
    ·rw [if_pos c6] at H
     have c6b0 := decide_eq_true c6; clear c6
     by_cases c7 : 0 ≤ x7_1
     ·rw [if_pos c7] at H
      have c7b0 := decide_eq_true c7; clear c7; obtain ⟨t293, A80, H⟩ := Option.bind_eq_some_iff.mp H
      (try dsimp only at H)
      have A8 := ak A80; clear A80
      by_cases c9 : t293 = 0
      ·rw [if_pos c9] at H
       have c9b0 : (t293 == 0) = true := beq_iff_eq.mpr c9; have c9b1 : (t293 != 0) = false := bne_eq_false_iff_eq.mpr c9; clear c9; have H' := ak H; clear H; obtain ⟨Ao10, co10, eo10⟩ := Kd.N_slice HO_5.out; subst eo10; have p292 : 0 ≤ (x7_1 : Int) := dq; have q292 : x7_1 < (t289.length : Int) := dq; obtain ⟨ad292, A292_0, c292_0, e292, hx292_0, hl292_0, hi292_0⟩ := at_L3 (Kd.N_reads' HO_5.out).2.2 x7_1 p292 q292; cases e292; obtain ⟨ce292, hce292, hMe292, hcc292⟩ := Kd.N_get HO_5.out [] x7_1 p292 (by first | exact q292 | exact dq | (have e_ := (Kd.N_reads' HO_5.out).1; omega)); obtain ⟨ua292_0, uc292_0, rfl, ul292_0, ge292_0⟩ := Kd.FK_slice_open hMe292; have hv292_0 := hcc292 0 _ rfl; rw [Nat.add_zero, show ((Kd.slice 49 k49)).sz = 1 from rfl, Nat.mul_one] at hv292_0; replace hv292_0 := Option.some.inj (hv292_0.symm.trans hx292_0)
       injection hv292_0 with hva_ hvn_ hvc_
       rw [hva_] at ge292_0; rw [hvc_] at ul292_0; have HL292_0 := ak (show Kd.V k49 49 _ w.heap.size _ _ (rd_L3 t289 x7_1) from Kd.V_mk ul292_0 ge292_0); clear hva_ hvn_ hvc_ ge292_0 ul292_0; clear hcc292 hce292; have HR292_0 := ak hi292_0; have HC292_0 := ak hl292_0; clear hi292_0 hl292_0; replace p292 := eq_true p292; replace q292 := eq_true q292
       go_wp2_with (first | ((with_reducible refine gate_callee (f := 74) rfl ?_); refine goesL_ (some 23) rfl rfl Try.func74 (by kernel_rfl) rfl #[.slice A292_0 (rd_L3 t289 x7_1).length c292_0] rfl aq ?_; (with_reducible refine (spec_l8Side.calls k1 _ _ (rd_L3 t289 x7_1) t293 _ ?side1 ?side2 A8.out).mono ?_); (case side1 => exact cq (by repeat (first | (with_reducible exact HR292_0.out) | (with_reducible refine Kd.C_alloc ?_ _) | (with_reducible refine Kd.C_drewN ?_ _) | (with_reducible refine Kd.C_drew ?_) | exact HR292_0.out))); (case side2 => exact HC292_0.out); rintro e w' ⟨rfl, ⟨nd, rfl⟩⟩; refine ⟨_, rfl, ?_⟩))
       go_roundg k1
       case measure => have := HK1.out; omega
       case rel => exact ⟨(wrap64 (x6_1 + 1)), (wrap64 (x7_1 + 1)), sq, sq, H', ⟨by have := HK1.out; omega⟩, ⟨by (with_reducible repeat (first | apply Kd.N_alloc | apply Kd.N_drewN | apply Kd.N_drew)); exact HO_5.out⟩, ⟨bq⟩⟩
      ·rw [if_neg c9] at H
       have c9b0 : (t293 == 0) = false := beq_eq_false_iff_ne.mpr c9; have c9b1 : (t293 != 0) = true := bne_iff_ne.mpr c9; have H' := ak H; clear H; obtain ⟨Ao11, co11, eo11⟩ := Kd.N_slice HO_5.out; subst eo11; have p292 : 0 ≤ (x7_1 : Int) := dq; have q292 : x7_1 < (t289.length : Int) := dq; obtain ⟨ad292, A292_0, c292_0, e292, hx292_0, hl292_0, hi292_0⟩ := at_L3 (Kd.N_reads' HO_5.out).2.2 x7_1 p292 q292; cases e292; obtain ⟨ce292, hce292, hMe292, hcc292⟩ := Kd.N_get HO_5.out [] x7_1 p292 (by first | exact q292 | exact dq | (have e_ := (Kd.N_reads' HO_5.out).1; omega)); obtain ⟨ua292_0, uc292_0, rfl, ul292_0, ge292_0⟩ := Kd.FK_slice_open hMe292; have hv292_0 := hcc292 0 _ rfl; rw [Nat.add_zero, show ((Kd.slice 49 k49)).sz = 1 from rfl, Nat.mul_one] at hv292_0; replace hv292_0 := Option.some.inj (hv292_0.symm.trans hx292_0)
       injection hv292_0 with hva_ hvn_ hvc_
       rw [hva_] at ge292_0; rw [hvc_] at ul292_0; have HL292_0 := ak (show Kd.V k49 49 _ w.heap.size _ _ (rd_L3 t289 x7_1) from Kd.V_mk ul292_0 ge292_0); clear hva_ hvn_ hvc_ ge292_0 ul292_0; clear hcc292 hce292; have HR292_0 := ak hi292_0; have HC292_0 := ak hl292_0; clear hi292_0 hl292_0; replace p292 := eq_true p292; replace q292 := eq_true q292
       go_wp2_with (first | ((with_reducible refine gate_callee (f := 74) rfl ?_); refine goesL_ (some 23) rfl rfl Try.func74 (by kernel_rfl) rfl #[.slice A292_0 (rd_L3 t289 x7_1).length c292_0] rfl aq ?_; (with_reducible refine (spec_l8Side.calls k1 _ _ (rd_L3 t289 x7_1) t293 _ ?side1 ?side2 A8.out).mono ?_); (case side1 => exact cq (by repeat (first | (with_reducible exact HR292_0.out) | (with_reducible refine Kd.C_alloc ?_ _) | (with_reducible refine Kd.C_drewN ?_ _) | (with_reducible refine Kd.C_drew ?_) | exact HR292_0.out))); (case side2 => exact HC292_0.out); rintro e w' ⟨rfl, ⟨nd, rfl⟩⟩; refine ⟨_, rfl, ?_⟩))
       go_roundg k1
       case measure => have := HK1.out; omega
       case rel => exact ⟨(x6_1), (wrap64 (x7_1 + 1)), sq, sq, H', ⟨by have := HK1.out; omega⟩, ⟨by (with_reducible repeat (first | apply Kd.N_alloc | apply Kd.N_drewN | apply Kd.N_drew)); exact HO_5.out⟩, ⟨bq⟩⟩
     ·rw [if_neg c7] at H
      exact absurd H (by simp)
    ·rw [if_neg c6] at H
     have c6b0 := decide_eq_false c6; clear c6; simp only [Option.some.injEq, Prod.mk.injEq] at H; obtain ⟨rfl, rfl, rfl⟩ := H; obtain ⟨Ao12, co12, eo12⟩ := Kd.N_slice HO_5.out; subst eo12; go_wp2
     go_ret3
     exact ⟨eq_, bq⟩
 ·replace c3 := Bool.eq_false_iff.mpr c3
  subst c3; rw [if_neg (show ¬ (false = true) by decide)] at H; simp only [Option.some.injEq, Prod.mk.injEq] at H; obtain ⟨rfl, rfl, rfl⟩ := H
  go_enter Try.func25, Try.ntmps25
  go_wp2_with (first | ((with_reducible refine gate_callee (f := 60) rfl ?_); refine goesL_ (some 9) rfl rfl Try.func60 (by kernel_rfl) rfl #[.int .i64 a0, .int .i64 1, .int .i64 6] rfl aq ?_; (with_reducible refine (spec_l1In.calls a0 1 6 false _ A2.out).mono ?_); rintro e w' ⟨rfl, ⟨nd, rfl⟩⟩; refine ⟨_, rfl, ?_⟩))
  go_ret3
  exact ⟨eq_, bq⟩

/-! ### slices_Index: function 110 -/
def slices_Index.l0 : Nat → List (S49) → Int → Int → Int → Int → Option (Int)
 | 0, _, _, _, _, _ => none
 | k + 1, x0, x7, x8, x295000, x295001 => if x8 < x7 then (if 0 ≤ x8 then (if x8 < (x0.length : Int) then (if (x295000 == ((rd_T49 x0 x8).f0) && (x295001 == ((rd_T49 x0 x8).f1))) = true then (some x8) else (slices_Index.l0 k x0 x7 (wrap64 (x8 + 1)) x295000 x295001)) else (none)) else (none)) else (some (-1))
def slices_Index.f (k : Nat) (l0 : List (S49)) (a1_0 : Int) (a1_1 : Int) : Option (Int) := slices_Index.l0 k l0 (l0.length : Int) 0 a1_0 a1_1
theorem slices_Index.mono_l : ∀ k, (∀ y0 y1 y2 y3 y4, LeO (slices_Index.l0 k y0 y1 y2 y3 y4) (slices_Index.l0 (k + 1) y0 y1 y2 y3 y4))
 | 0 => fun _ _ _ _ _ r h => by simp [slices_Index.l0] at h
 | k + 1 => by
  have ih0 := slices_Index.mono_l k
  ·intro y0 y1 y2 y3 y4
   unfold slices_Index.l0
   repeat' first
   | (with_reducible exact ih0 _ _ _ _ _)
   | (with_reducible exact LeO.refl _)
   | (with_reducible exact LeO.none _)
   | (with_reducible refine LeO.ite ?_ ?_)
   | (with_reducible refine LeO.bind ?_ (fun _ => ?_))
theorem slices_Index.mono : ∀ a0 a1 a2 k, LeO (slices_Index.f k a0 a1 a2) (slices_Index.f (k + 1) a0 a1 a2) := by
 intro a0 a1 a2 k; have ih0 := slices_Index.mono_l k
 unfold slices_Index.f
 repeat' first
   | (with_reducible exact ih0 _ _ _ _ _)
   | (with_reducible exact LeO.refl _)
   | (with_reducible exact LeO.none _)
   | (with_reducible refine LeO.ite ?_ ?_)
   | (with_reducible refine LeO.bind ?_ (fun _ => ?_))
set_option maxHeartbeats 8000000 in
set_option maxRecDepth 100000 in
theorem slices_Index.calls (k : Nat) (A0 : Option Addr) (c0 : Nat) (l0 : List (S49)) (a1_0 : Int) (a1_1 : Int) (r : Int) (w : World) (hr0 : Kd.C k49 w A0 l0.length l0) (hc0 : l0.length ≤ c0) (h : slices_Index.f k l0 a1_0 a1_1 = some r) :
  Calls Try.prog 110 #[.slice A0 l0.length c0, .agg #[.int .i64 a1_0, .int .i64 a1_1]] w fun e w' => e = .returned (.int .i64 r) ∧ Below w.heap.size w w' := by
 have hu49 := Try.underlying49; have HR0 := ak hr0; have HC0 := ak hc0; clear hr0 hc0; have HB := ak (Below.refl w.heap.size w); have H : (slices_Index.l0 k l0 (l0.length : Int) 0 a1_0 a1_1) = some r := h; clear h; have H' := ak H; clear H
 go_enter Try.func110, Try.ntmps110
 go_wp2_with (first | ((with_reducible refine gate_dst (N := 3) rfl ?_); refine box_event ?hg (N := 3) ?hd (cs := #[.int .i64 a1_0, .int .i64 a1_1]) (t := 49) ?hr ?_; (case hd => rfl); (case hg => rfl); (case hr => first | (go_simp; done) | (go_simp; rfl)); intro gb294 hg w3 hbox hb; have n0_ := ak (below_step bq hb); have n1_ := ak (hbox); have n2_ := ak ((by rw [hg]; exact (below_size bq) : w.heap.size ≤ gb294)); have n3_ := ak ((by rw [hg]; exact (below_size bq) : w.heap.size ≤ gb294)); clear HB; have HB := n0_; have BK294 := n1_; have GW294 := n2_; have GE294 := n3_; clear n0_ n1_ n2_ n3_; clear hb hbox hg))
 repeat (go_quiet (first | ((with_reducible refine gate_dst (N := 3) rfl ?_); refine box_event ?hg (N := 3) ?hd (cs := #[.int .i64 a1_0, .int .i64 a1_1]) (t := 49) ?hr ?_; (case hd => rfl); (case hg => rfl); (case hr => first | (go_simp; done) | (go_simp; rfl)); intro gb294 hg w3 hbox hb; have n0_ := ak (below_step bq hb); have n1_ := ak (hbox); have n2_ := ak ((by rw [hg]; exact (below_size bq) : w.heap.size ≤ gb294)); have n3_ := ak ((by rw [hg]; exact (below_size bq) : w.heap.size ≤ gb294)); clear HB; have HB := n0_; have BK294 := n1_; have GW294 := n2_; have GE294 := n3_; clear n0_ n1_ n2_ n3_; clear hb hbox hg)); try go_wp2_with (first | ((with_reducible refine gate_dst (N := 3) rfl ?_); refine box_event ?hg (N := 3) ?hd (cs := #[.int .i64 a1_0, .int .i64 a1_1]) (t := 49) ?hr ?_; (case hd => rfl); (case hg => rfl); (case hr => first | (go_simp; done) | (go_simp; rfl)); intro gb294 hg w3 hbox hb; have n0_ := ak (below_step bq hb); have n1_ := ak (hbox); have n2_ := ak ((by rw [hg]; exact (below_size bq) : w.heap.size ≤ gb294)); have n3_ := ak ((by rw [hg]; exact (below_size bq) : w.heap.size ≤ gb294)); clear HB; have HB := n0_; have BK294 := n1_; have GW294 := n2_; have GE294 := n3_; clear n0_ n1_ n2_ n3_; clear hb hbox hg)))
 go_loopg [8] k (fun kq v8 w' => ∃ (x8_1 : Int), v8 = .int .i64 x8_1 ∧ Aside0 (slices_Index.l0 kq l0 (l0.length : Int) x8_1 a1_0 a1_1 = some r) ∧ Aside0 (kq ≤ k) ∧ Aside0 (w'.heap[gb294]? = some (.cells #[.int .i64 a1_0, .int .i64 a1_1] 49 (0, 0))) ∧ Aside0 (Below w.heap.size w w'))
 case atStart => exact ⟨(0), sq, H', ⟨Nat.le_refl _⟩, ⟨by (with_reducible repeat (first | refine blk_drewN ?_ _ | refine blk_drew ?_ | refine blk_alloc ?_ _)); exact BK294.out⟩, ⟨bs⟩⟩
 case round =>
  clear H'; (try clear c1); (try clear p2); obtain ⟨x8_1, rfl, HA, HK1, BK294, HB⟩ := hrel
  cases gk with
  | zero => exact absurd HA.out (by simp [slices_Index.l0])
  | succ k1 =>
   have H := HA.out; clear HA; simp only [slices_Index.l0] at H
   by_cases c4 : x8_1 < (l0.length : Int)
   ·rw [if_pos c4] at H
    have c4b0 := decide_eq_true c4; clear c4
    by_cases c5 : 0 ≤ x8_1
    ·rw [if_pos c5] at H
     have c5b0 := decide_eq_true c5; clear c5
     by_cases c6 : x8_1 < (l0.length : Int)
     ·rw [if_pos c6] at H
      have c6b0 := decide_eq_true c6; clear c6
      by_cases c7 : (a1_0 == ((rd_T49 l0 x8_1).f0) && (a1_1 == ((rd_T49 l0 x8_1).f1))) = true
      ·rw [if_pos c7] at H
       have c7b0 : (a1_0 == ((rd_T49 l0 x8_1).f0) && (a1_1 == ((rd_T49 l0 x8_1).f1))) = true := c7
       (try (have c7b1 : decide (a1_0 = ((rd_T49 l0 x8_1).f0) && (a1_1 == ((rd_T49 l0 x8_1).f1))) = true := by simpa using c7))
       (try (have c7b2 : (a1_0 == ((rd_T49 l0 x8_1).f0) && (a1_1 == ((rd_T49 l0 x8_1).f1))) = true := by simpa using c7))
       clear c7; obtain rfl := Option.some.inj H; have hcz8_0 : wr.cell? ⟨gb294, 0, none⟩ = some (.int .i64 a1_0) := (blk_cell BK294.out 0).trans rfl; have hcz8_1 : wr.cell? ⟨gb294, 1, none⟩ = some (.int .i64 a1_1) := (blk_cell BK294.out 1).trans rfl; have hfz8_0 := blk_frozen BK294.out 0; have hfz8_1 := blk_frozen BK294.out 1; have p295 : 0 ≤ (x8_1 : Int) := dq; have q295 : x8_1 < (l0.length : Int) := dq; obtain ⟨ad295, e295, hx295_0, hx295_1⟩ := at_T49 HR0.out x8_1 p295 q295; cases e295; replace hx295_0 := hb_ HB hx295_0; replace hx295_1 := hb_ HB hx295_1; replace p295 := eq_true p295; replace q295 := eq_true q295; go_wp2
       repeat (go_quiet (fail); try go_wp2)
       go_ret; exact ⟨eq_, bs⟩
      ·rw [if_neg c7] at H
       have c7b0 : (a1_0 == ((rd_T49 l0 x8_1).f0) && (a1_1 == ((rd_T49 l0 x8_1).f1))) = false := by simpa using c7
       (try (have c7b1 : decide (a1_0 = ((rd_T49 l0 x8_1).f0) && (a1_1 == ((rd_T49 l0 x8_1).f1))) = false := by simpa using c7))
       (try (have c7b2 : (a1_0 == ((rd_T49 l0 x8_1).f0) && (a1_1 == ((rd_T49 l0 x8_1).f1))) = false := by simpa using c7))
       (try (have c7b3 : ¬ (a1_0 = ((rd_T49 l0 x8_1).f0) && (a1_1 == ((rd_T49 l0 x8_1).f1))) := by simpa using c7))
       clear c7; have H' := ak H; clear H; have hcz9_0 : wr.cell? ⟨gb294, 0, none⟩ = some (.int .i64 a1_0) := (blk_cell BK294.out 0).trans rfl; have hcz9_1 : wr.cell? ⟨gb294, 1, none⟩ = some (.int .i64 a1_1) := (blk_cell BK294.out 1).trans rfl; have hfz9_0 := blk_frozen BK294.out 0; have hfz9_1 := blk_frozen BK294.out 1; have p295 : 0 ≤ (x8_1 : Int) := dq; have q295 : x8_1 < (l0.length : Int) := dq; obtain ⟨ad295, e295, hx295_0, hx295_1⟩ := at_T49 HR0.out x8_1 p295 q295; cases e295; replace hx295_0 := hb_ HB hx295_0; replace hx295_1 := hb_ HB hx295_1; replace p295 := eq_true p295; replace q295 := eq_true q295; go_wp2
       repeat (go_quiet (fail); try go_wp2)
       go_roundg k1
       case measure => have := HK1.out; omega
       case rel => exact ⟨(wrap64 (x8_1 + 1)), sq, H', ⟨by have := HK1.out; omega⟩, ⟨by (with_reducible repeat (first | refine blk_drewN ?_ _ | refine blk_drew ?_ | refine blk_alloc ?_ _)); exact BK294.out⟩, ⟨bs⟩⟩
     ·rw [if_neg c6] at H
      exact absurd H (by simp)
    ·rw [if_neg c5] at H
     exact absurd H (by simp)
   ·rw [if_neg c4] at H
    have c4b0 := decide_eq_false c4; clear c4; obtain rfl := Option.some.inj H; go_wp2
    repeat (go_quiet (fail); try go_wp2)
    go_ret; exact ⟨eq_, bs⟩

/-! ### slices_Contains: function 71 -/
def slices_Contains.f (k : Nat) (l0 : List (S49)) (a1_0 : Int) (a1_1 : Int) : Option (Bool) := (slices_Index.f k l0 a1_0 a1_1).bind fun t297 => (some (decide (t297 ≥ 0)))
theorem slices_Contains.mono : ∀ a0 a1 a2 k, LeO (slices_Contains.f k a0 a1 a2) (slices_Contains.f (k + 1) a0 a1 a2) := by
 intro a0 a1 a2 k
 unfold slices_Contains.f
 repeat' first
   | (with_reducible exact slices_Index.mono _ _ _ _)
   | (with_reducible exact LeO.refl _)
   | (with_reducible exact LeO.none _)
   | (with_reducible refine LeO.ite ?_ ?_)
   | (with_reducible refine LeO.bind ?_ (fun _ => ?_))
set_option maxHeartbeats 8000000 in
set_option maxRecDepth 100000 in
theorem slices_Contains.calls (k : Nat) (A0 : Option Addr) (c0 : Nat) (l0 : List (S49)) (a1_0 : Int) (a1_1 : Int) (r : Bool) (w : World) (hr0 : Kd.C k49 w A0 l0.length l0) (hc0 : l0.length ≤ c0) (h : slices_Contains.f k l0 a1_0 a1_1 = some r) :
  Calls Try.prog 71 #[.slice A0 l0.length c0, .agg #[.int .i64 a1_0, .int .i64 a1_1]] w fun e w' => e = .returned (.bool r) ∧ Below w.heap.size w w' := by
 have hu49 := Try.underlying49; have HR0 := ak hr0; have HC0 := ak hc0; clear hr0 hc0; have HB := ak (Below.refl w.heap.size w); have H : ((slices_Index.f k l0 a1_0 a1_1).bind fun t297 => (some (decide (t297 ≥ 0)))) = some r := h; clear h; obtain ⟨t297, A30, H⟩ := Option.bind_eq_some_iff.mp H
 (try dsimp only at H)
 have A3 := ak A30; clear A30; obtain rfl := Option.some.inj H
 go_enter Try.func71, Try.ntmps71
 go_wp2_with (first | ((with_reducible refine gate_dst (N := 3) rfl ?_); refine box_event ?hg (N := 3) ?hd (cs := #[.int .i64 a1_0, .int .i64 a1_1]) (t := 49) ?hr ?_; (case hd => rfl); (case hg => rfl); (case hr => first | (go_simp; done) | (go_simp; rfl)); intro gb296 hg w4 hbox hb; have n0_ := ak (below_step bq hb); have n1_ := ak (hbox); have n2_ := ak ((by rw [hg]; exact (below_size bq) : w.heap.size ≤ gb296)); have n3_ := ak ((by rw [hg]; exact (below_size bq) : w.heap.size ≤ gb296)); clear HB; have HB := n0_; have BK296 := n1_; have GW296 := n2_; have GE296 := n3_; clear n0_ n1_ n2_ n3_; clear hb hbox hg; have hcz5_0 : w4.cell? ⟨gb296, 0, none⟩ = some (.int .i64 a1_0) := (blk_cell BK296.out 0).trans rfl; have hcz5_1 : w4.cell? ⟨gb296, 1, none⟩ = some (.int .i64 a1_1) := (blk_cell BK296.out 1).trans rfl; have hfz5_0 := blk_frozen BK296.out 0; have hfz5_1 := blk_frozen BK296.out 1) | ((with_reducible refine gate_callee (f := 110) rfl ?_); refine goesL_ (some 7) rfl rfl Try.func110 (by kernel_rfl) rfl #[.slice A0 l0.length c0, .agg #[.int .i64 a1_0, .int .i64 a1_1]] rfl aq ?_; (with_reducible refine (slices_Index.calls k _ _ l0 a1_0 a1_1 t297 _ ?side1 ?side2 A3.out).mono ?_); (case side1 => exact cq (Kd.C_below HR0.out HB.out)); (case side2 => exact HC0.out); rintro e w6 ⟨rfl, hb⟩; refine ⟨_, rfl, ?_⟩; have n0_ := ak (blk_below (g := gb296) (o := .cells #[.int .i64 a1_0, .int .i64 a1_1] 49 (0, 0)) (uq BK296) hb); have n1_ := ak (below_step bs hb); clear BK296; clear HB; have BK296 := n0_; have HB := n1_; clear n0_ n1_; (try clear hb); (try clear hb2); (try clear hk); (try clear hi)))
 go_ret; exact ⟨eq_, bs⟩

end Go.Proofs.Ytckhmeadflafaaa.XCb
