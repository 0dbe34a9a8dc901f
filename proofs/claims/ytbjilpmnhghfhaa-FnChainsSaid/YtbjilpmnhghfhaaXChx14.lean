/- Functions of the program as plain Lean functions, each with the proof that the machine's call does what it says: written by a program of this session out of the translation. -/
import Derived.Test.YtbjilpmnhghfhaaXChx0
import Derived.Test.YtbjilpmnhghfhaaXChx10
import Derived.Test.YtbjilpmnhghfhaaXChx11
namespace Go.Proofs.Ytbjilpmnhghfhaa.XCh
open Go.RowKit Go.Proofs.YtbjilpmnhghfhaaW.PrintWords Go.Proofs.YtbjilpmnhghfhaaW.PrintLast Go.Proofs.YtbjilpmnhghfhaaW.PrintMore
attribute [local go_sem] max2_int min2_int max_two min_two max_three min_three max_four min_four   -- for this text's walks alone
set_option linter.unusedVariables false
set_option linter.unusedSimpArgs false

/-! ### spec_StepPulls: function 41 -/
def spec_StepPulls.l0 : Nat → List (S37) → Int → List (S41) → Int → Option ((List (S41)) × Bool)
 | 0, _, _, _, _ => none
 | k + 1, x0, x1, x6, x7 => if x7 < (x0.length : Int) then (if 0 ≤ (wrap64 (x7 + 1)) then (if (wrap64 (x7 + 1)) ≤ (x0.length : Int) then ((spec_l7Chain.f k (x0.take ((wrap64 (x7 + 1)) : Int).toNat)).bind fun bt334 => ((spec_l2Cut.f k (wrap64 (x1 * bt334.2)) bt334.1).bind fun bt337 => (if x6.length < 8796093022208 then (spec_StepPulls.l0 k x0 x1 (x6 ++ [(⟨bt337.1, bt337.2⟩ : S41)]) (wrap64 (x7 + 1))) else (none)))) else (none)) else (none)) else (some (x6, true))
def spec_StepPulls.f (k : Nat) (l0 : List (S37)) (a1 : Int) : Option ((List (S41)) × Bool) := (spec_l7Ask.f k l0 a1).bind fun t323 => (if t323 = true then (spec_StepPulls.l0 k l0 a1 (([(⟨a1, 1⟩ : S41)] : List (S41))) 0) else (some ((([] : List (S41))), false)))
theorem spec_StepPulls.mono_l : ∀ k, (∀ y0 y1 y2 y3, LeO (spec_StepPulls.l0 k y0 y1 y2 y3) (spec_StepPulls.l0 (k + 1) y0 y1 y2 y3))
 | 0 => fun _ _ _ _ r h => by simp [spec_StepPulls.l0] at h
 | k + 1 => by
  have ih0 := spec_StepPulls.mono_l k
  ·intro y0 y1 y2 y3
   unfold spec_StepPulls.l0
   repeat' first
   | (with_reducible exact ih0 _ _ _ _)
   | (with_reducible exact spec_l2Cut.mono _ _ _)
   | (with_reducible exact spec_l7Ask.mono _ _ _)
   | (with_reducible exact spec_l7Chain.mono _ _)
   | (with_reducible exact LeO.refl _)
   | (with_reducible exact LeO.none _)
   | (with_reducible refine LeO.ite ?_ ?_)
   | (with_reducible refine LeO.bind ?_ (fun _ => ?_))
theorem spec_StepPulls.mono : ∀ a0 a1 k, LeO (spec_StepPulls.f k a0 a1) (spec_StepPulls.f (k + 1) a0 a1) := by
 intro a0 a1 k; have ih0 := spec_StepPulls.mono_l k
 unfold spec_StepPulls.f
 repeat' first
   | (with_reducible exact ih0 _ _ _ _)
   | (with_reducible exact spec_l2Cut.mono _ _ _)
   | (with_reducible exact spec_l7Ask.mono _ _ _)
   | (with_reducible exact spec_l7Chain.mono _ _)
   | (with_reducible exact LeO.refl _)
   | (with_reducible exact LeO.none _)
   | (with_reducible refine LeO.ite ?_ ?_)
   | (with_reducible refine LeO.bind ?_ (fun _ => ?_))
set_option maxHeartbeats 8000000 in
set_option maxRecDepth 100000 in
theorem spec_StepPulls.calls (k : Nat) (A0 : Option Addr) (c0 : Nat) (l0 : List (S37)) (a1 : Int) (r1 : List (S41)) (r2 : Bool) (w : World) (hr0 : Kd.C k37 w A0 l0.length l0) (hc0 : l0.length ≤ c0) (h : spec_StepPulls.f k l0 a1 = some (r1, r2)) :
  Calls Try.prog 41 #[.slice A0 l0.length c0, .int .i64 a1] w fun e w' => ∃ v0_ : Value, e = .returned (.tuple #[v0_, .bool r2]) ∧ Kd.R k41 41 w' w.heap.size (fun _ => True) v0_ r1 ∧ Below w.heap.size w w' := by
 have hu41 := Try.underlying41; have HR0 := Aside0.mk hr0; have HC0 := Aside0.mk hc0; clear hr0 hc0; have HB := Aside0.mk (Below.refl w.heap.size w); have H : ((spec_l7Ask.f k l0 a1).bind fun t323 => (if t323 = true then (spec_StepPulls.l0 k l0 a1 (([(⟨a1, 1⟩ : S41)] : List (S41))) 0) else (some ((([] : List (S41))), false)))) = some (r1, r2) := h; clear h; obtain ⟨t323, A30, H⟩ := Option.bind_eq_some_iff.mp H
 (try dsimp only at H)
 have A3 := Aside0.mk A30; clear A30
 by_cases c4 : t323 = true
 ·subst c4
  rw [if_pos rfl] at H; obtain ⟨y327, hy327⟩ : ∃ y_ : List (S41), y_ = (([(⟨a1, 1⟩ : S41)] : List (S41))) := ⟨_, rfl⟩
  replace H : (spec_StepPulls.l0 k l0 a1 y327 0) = some (r1, r2) := by first | (rw [hy327]; with_reducible exact H) | (have H2_ := (Option.bind_some _ _).symm.trans H; rw [hy327]; with_reducible exact H2_) | (have H2_ := (Option.bind_some _ _).symm.trans H; with_reducible exact H2_) | with_reducible exact H | (rw [hy327]; exact H) | exact H
  have Ny327 := Aside0.mk hy327; clear hy327; have H' := Aside0.mk H; clear H
  go_enter Try.func41, Try.ntmps41
  go_wp2_with (first | ((with_reducible refine gate_callee (f := 68) rfl ?_); refine goesL_ (some 11) rfl rfl Try.func68 (by kernel_rfl) rfl #[.slice A0 l0.length c0, .int .i64 a1] rfl aq ?_; (with_reducible refine (spec_l7Ask.calls k _ _ l0 a1 true _ ?side1 ?side2 A3.out).mono ?_); (case side1 => exact cq HR0.out); (case side2 => exact HC0.out); rintro e w5 ⟨rfl, hb⟩; refine ⟨_, rfl, ?_⟩; have n0_ := Aside0.mk (below_step bq hb); clear HB; have HB := n0_; clear n0_; (try clear hb); (try clear hb2); (try clear hk); (try clear hi)) | ((with_reducible refine gate_dst (N := 16) rfl ?_); refine Kd.R_lit k41 _ 41 ?hg (N := 16) ?hd (xs := ([(⟨a1, 1⟩ : S41)] : List (S41))) (inner := [.int .i64 a1, .int .i64 1]) (ok := fun _ => True) (okp := fun _ => True) ?hr ?hp (fun _ hk => hk) trivial (Below.refl _ _) (Nat.le_refl _) (by simp) ?_; (case hd => rfl); (case hg => rfl); (case hr => first | (go_simp; done) | (go_simp; rfl)); (case hp => exact (Reps.c2 (show Kd.M k41 _ _ _ (⟨a1, 1⟩ : S41) [.int .i64 a1, .int .i64 1] from (k41_mkM _ _ _ (⟨a1, 1⟩ : S41) )) (Reps.none _ _))); intro v328 w6 ho7 hb hg_ hnew_; clear hg_ hnew_; (first | rw [← Ny327.out] at ho7 | (simp only [Int.reduceToNat] at ho7; rw [← Ny327.out] at ho7)); have n0_ := Aside0.mk (Kd.R_lower ho7 (below_size bq)); have n1_ := Aside0.mk (below_step bq hb); clear HB; have HO329 := n0_; have HB := n1_; clear n0_ n1_; clear hb ho7))
  (try simp only [Act.put, sA, sZ, sS])
  go_loopg [6, 7] k (fun kq v6 v7 w' => ∃ (x6_1 : List (S41)) (x7_1 : Int), v7 = .int .i64 x7_1 ∧ Aside0 (spec_StepPulls.l0 kq l0 a1 x6_1 x7_1 = some (r1, r2)) ∧ Aside0 (kq ≤ k) ∧ Aside0 (Kd.R k41 41 w' w.heap.size (fun _ => True) v6 x6_1) ∧ Aside0 (Below w.heap.size w w'))
  case atStart => exact ⟨(y327), (0), sq, H', ⟨Nat.le_refl _⟩, ⟨rq HO329⟩, ⟨bq⟩⟩
  case round =>
   clear H'; (try clear c2); (try clear p2); (try clear c4); (try clear c6); obtain ⟨x6_1, x7_1, rfl, HA, HK1, HO_6, HB⟩ := hrel
   cases gk with
   | zero => exact absurd HA.out (by simp [spec_StepPulls.l0])
   | succ k1 =>
    have H := HA.out; clear HA; simp only [spec_StepPulls.l0] at H
    by_cases c8 : x7_1 < (l0.length : Int)
    ·rw [if_pos c8] at H
     have c8b0 : decide (x7_1 < (l0.length : Int)) = true := decide_eq_true c8; clear c8; obtain ⟨ji9, hji9⟩ : ∃ j_ : Int, (wrap64 (x7_1 + 1)) = j_ := ⟨_, rfl⟩
     (first | rw [hji9] at H | simp only [hji9] at H)
     have hji9w : (IntKind.i64.wrap (x7_1 + 1)) = ji9 := (i64_w _).trans hji9
     by_cases c10 : 0 ≤ (ji9)
     ·rw [if_pos c10] at H
      have c10b0 := eq_true c10; have c10b1 : decide (0 ≤ (ji9)) = true := decide_eq_true c10; clear c10
      by_cases c11 : (ji9) ≤ (l0.length : Int)
      ·rw [if_pos c11] at H
       have c11b0 := eq_true c11; have c11b1 : decide ((ji9) ≤ (l0.length : Int)) = true := decide_eq_true c11; clear c11; obtain ⟨y330, hy330⟩ : ∃ y_ : List (S37), y_ = (l0.take ((ji9) : Int).toNat) := ⟨_, rfl⟩
       replace H : ((spec_l7Chain.f k1 y330).bind fun bt334 => ((spec_l2Cut.f k1 (wrap64 (a1 * bt334.2)) bt334.1).bind fun bt337 => (if x6_1.length < 8796093022208 then (spec_StepPulls.l0 k1 l0 a1 (x6_1 ++ [(⟨bt337.1, bt337.2⟩ : S41)]) ji9) else (none)))) = some (r1, r2) := by first | (rw [hy330]; with_reducible exact H) | (have H2_ := (Option.bind_some _ _).symm.trans H; rw [hy330]; with_reducible exact H2_) | (have H2_ := (Option.bind_some _ _).symm.trans H; with_reducible exact H2_) | with_reducible exact H | (rw [hy330]; exact H) | exact H
       have Ny330 := Aside0.mk hy330; clear hy330; obtain ⟨⟨t334, t335⟩, A120, H⟩ := Option.bind_eq_some_iff.mp H
       (try dsimp only at H)
       have A12 := Aside0.mk A120; clear A120; obtain ⟨⟨t337, t338⟩, A130, H⟩ := Option.bind_eq_some_iff.mp H
       (try dsimp only at H)
       have A13 := Aside0.mk A130; clear A130
       by_cases c14 : x6_1.length < 8796093022208
       ·rw [if_pos c14] at H
        have LMc14 := Aside0.mk c14; clear c14; obtain ⟨y339, hy339⟩ : ∃ y_ : List (S41), y_ = (x6_1 ++ [(⟨t337, t338⟩ : S41)]) := ⟨_, rfl⟩
        replace H : (spec_StepPulls.l0 k1 l0 a1 y339 ji9) = some (r1, r2) := by first | (rw [hy339]; with_reducible exact H) | (have H2_ := (Option.bind_some _ _).symm.trans H; rw [hy339]; with_reducible exact H2_) | (have H2_ := (Option.bind_some _ _).symm.trans H; with_reducible exact H2_) | with_reducible exact H | (rw [hy339]; exact H) | exact H
        have Ny339 := Aside0.mk hy339; clear hy339; have H' := Aside0.mk H; clear H; have q15 : ((ji9) : Int) ≤ ((l0.length : Int) : Int) := dq; obtain ⟨i015, hi015, _, hsz15, _⟩ := info_parts info37; have hroom15 : l0.length ≤ c0 := HC0.out; have hC15 : Kd.C k37 _ A0 l0.length l0 := HR0.out; have hcut15 := cut_to (P := Try.prog) 27 37 .i64 Try.underlying27 hi015 A0 l0.length c0 (ji9) (dq) q15 hroom15; have hr15 := Kd.C_take (m := ((ji9) : Int).toNat) hC15 (by omega); have hy15 : y330.length = ((ji9) : Int).toNat := (by rw [Ny330.out, List.length_take]; omega); rw [← Ny330.out] at hr15; rw [← hy15] at hcut15; have HR333 := Aside0.mk hr15; have HC333 := Aside0.mk (show y330.length ≤ c0 from by omega); clear hr15 hC15 hroom15 hi015 hsz15; have KY15 := Aside0.mk hy15; clear hy15; replace q15 := eq_true q15
        go_wp2_with (first | ((with_reducible refine gate_callee (f := 69) rfl ?_); refine goesL_ (some 27) rfl rfl Try.func69 (by kernel_rfl) rfl #[.slice A0 y330.length c0] rfl aq ?_; (with_reducible refine (spec_l7Chain.calls k1 _ _ y330 t334 t335 _ ?side1 ?side2 A12.out).mono ?_); (case side1 => exact cq (Kd.C_below HR333.out HB.out)); (case side2 => exact HC333.out); rintro e w16 ⟨rfl, hb⟩; refine ⟨_, rfl, ?_⟩; have n0_ := Aside0.mk (Kd.R_below (rq HO_6) hb); have n1_ := Aside0.mk (below_step bq hb); clear HO_6; clear HB; have HO_6 := n0_; have HB := n1_; clear n0_ n1_; (try clear hb); (try clear hb2); (try clear hk); (try clear hi)) | ((with_reducible refine gate_dst (N := 8) rfl ?_); refine box_event ?hg (N := 8) ?hd (cs := #[.int .i64 0, .int .i64 0]) (t := 41) ?hr ?_; (case hd => rfl); (case hg => rfl); (case hr => first | (go_simp; done) | (go_simp; rfl)); intro gb336 hg w17 hbox hb; have n0_ := Aside0.mk (Kd.R_below (Kd.R_elderB (rq HO_6) gb336 (Nat.le_of_eq hg.symm)) hb); have n1_ := Aside0.mk (below_step bq hb); have n2_ := Aside0.mk (hbox); have n3_ := Aside0.mk ((by rw [hg]; exact (below_size bq) : w.heap.size ≤ gb336)); have n4_ := Aside0.mk ((by rw [hg]; exact (below_size bq) : w.heap.size ≤ gb336)); clear HO_6; clear HB; have HO_6 := n0_; have HB := n1_; have BK336 := n2_; have GW336 := n3_; have GE336 := n4_; clear n0_ n1_ n2_ n3_ n4_; clear hb hbox hg; have hcz18_0 : w17.cell? ⟨gb336, 0, none⟩ = some (.int .i64 0) := (blk_cell BK336.out 0).trans rfl; have hcz18_1 : w17.cell? ⟨gb336, 1, none⟩ = some (.int .i64 0) := (blk_cell BK336.out 1).trans rfl; have hfz18_0 := blk_frozen BK336.out 0; have hfz18_1 := blk_frozen BK336.out 1) | ((with_reducible refine gate_callee (f := 70) rfl ?_); refine goesL_ (some 35) rfl rfl Try.func70 (by kernel_rfl) rfl #[.int .i64 (wrap64 (a1 * t335)), .int .i64 t334] rfl aq ?_; (with_reducible refine (spec_l2Cut.calls k1 (wrap64 (a1 * t335)) t334 t337 t338 _ A13.out).mono ?_); rintro e w19 ⟨rfl, hb⟩; refine ⟨_, rfl, ?_⟩; have n0_ := Aside0.mk (Kd.R_below (by (with_reducible repeat (first | apply Kd.R_alloc | apply Kd.R_drewN | apply Kd.R_drew)); exact (Kd.R_mono (Kd.R_far (p := ⟨gb336, 1, none⟩) (Kd.R_far (p := ⟨gb336, 0, none⟩) (Kd.R_mono HO_6.out (fun k_ hk => (⟨hk, hk.2⟩ : _ ∧ k_ ≠ gb336))) (fun _ hk => hk.2) (.int .i64 t334)) (fun _ hk => hk.2) (.int .i64 t335)) (fun _ h_ => h_.1))) hb); have n1_ := Aside0.mk (blk_below (g := gb336) (o := .cells #[.int .i64 t334, .int .i64 t335] 41 (0, 0)) (by (with_reducible repeat (first | refine blk_drewN ?_ _ | refine blk_drew ?_ | refine blk_alloc ?_ _)); refine blk_put (cs := #[.int .i64 t334, .int .i64 0]) ?_ 1 _ rfl; (with_reducible repeat (first | refine blk_drewN ?_ _ | refine blk_drew ?_ | refine blk_alloc ?_ _)); refine blk_put (cs := #[.int .i64 0, .int .i64 0]) ?_ 0 _ rfl; (with_reducible repeat (first | refine blk_drewN ?_ _ | refine blk_drew ?_ | refine blk_alloc ?_ _)); exact BK336.out) hb); have n2_ := Aside0.mk (below_step (by repeat (first | (with_reducible first | exact HB.out | apply below_alloc | apply pw_below_drewN | apply below_drew1 | refine below_set ?_ GE336.out) | exact HB.out)) hb); clear HO_6; clear BK336; clear HB; have HO_6 := n0_; have BK336 := n1_; have HB := n2_; clear n0_ n1_ n2_; (try clear hb); (try clear hb2); (try clear hk); (try clear hi)) | ((with_reducible refine gate_builtin (b := .append) (xs := #[.tmp 28, .tmp 36]) rfl ?_); at_builtin; refine Kd.R_append k41 (w0 := w) w.heap.size rfl (.tmp 28) (.tmp 36) 52 41 (.agg #[(.int .i64 0), (.int .i64 0)]) 16 rfl Try.underlying52 info41 rfl (by decide) (by omega) u6 x6_1 (⟨t337, t338⟩ : S41) [.int .i64 t337, .int .i64 t338] (fun k_ => k_ ≠ gb336) (fun _ => False) rfl rfl ?aP (fun _ hk => hk.elim) ?aF ?aO ?aB ?aS ?aL ?_; (case aP => exact k41_mkM _ _ _ (⟨t337, t338⟩ : S41)); (case aB => exact (by repeat (first | (with_reducible first | exact HB.out | apply below_alloc | apply pw_below_drewN | apply below_drew1 | refine below_set ?_ GE336.out) | exact HB.out))); (case aF => exact (fun k_ hk => Kd.freshB (g := gb336) (o := .cells #[.int .i64 t334, .int .i64 t335] 41 (0, 0)) (uq BK336) k_ hk)); (case aO => exact (by (with_reducible repeat (first | apply Kd.R_alloc | apply Kd.R_drewN | apply Kd.R_drew)); exact Kd.R_mono HO_6.out (fun _ hk => hk.2))); (case aS => exact (below_size (by repeat (first | (with_reducible first | exact HB.out | apply below_alloc | apply pw_below_drewN | apply below_drew1 | refine below_set ?_ GE336.out) | exact HB.out)))); (case aL => have := LMc14.out; omega); intro v340 w20 ho hb hg hat; rw [← Ny339.out] at ho; have n0_ := Aside0.mk (blk_grown (g := gb336) (o := .cells #[.int .i64 t334, .int .i64 t335] 41 (0, 0)) (uq BK336) hg (Kd.R_away HO_6.out (fun _ hk => hk.2))); have n1_ := Aside0.mk (hb); have n2_ := Aside0.mk (ho); clear BK336; clear HB; clear HO_6; have BK336 := n0_; have HB := n1_; have HO341 := n2_; clear n0_ n1_ n2_; clear ho hb hg hat))
        go_roundg k1
        case measure => have := HK1.out; omega
        case rel => exact ⟨(y339), (ji9), (by first | rfl | (simp; done) | (simp only [← hji9] <;> (first | rfl | simp)) | (simp [*]; done)), H', ⟨by have := HK1.out; omega⟩, ⟨by (with_reducible repeat (first | apply Kd.R_alloc | apply Kd.R_drewN | apply Kd.R_drew)); exact Kd.R_mono HO341.out (fun _ hk => trivial)⟩, ⟨by repeat (first | (with_reducible first | exact HB.out | apply below_alloc | apply pw_below_drewN | apply below_drew1 | refine below_set ?_ GE336.out) | exact HB.out)⟩⟩
       ·rw [if_neg c14] at H
        exact absurd H (by simp)
      ·rw [if_neg c11] at H
       exact absurd H (by simp)
     ·rw [if_neg c10] at H
      exact absurd H (by simp)
    ·rw [if_neg c8] at H
     have c8b0 : decide (x7_1 < (l0.length : Int)) = false := decide_eq_false c8; clear c8; simp only [Option.some.injEq, Prod.mk.injEq] at H; obtain ⟨rfl, rfl⟩ := H; go_wp2
     go_ret2
     exact ⟨_, eq_, rq HO_6, bq⟩
 ·replace c4 := Bool.eq_false_iff.mpr c4
  subst c4; rw [if_neg (show ¬ (false = true) by decide)] at H; obtain ⟨y324, hy324⟩ : ∃ y_ : List (S41), y_ = (([] : List (S41))) := ⟨_, rfl⟩
  replace H : (some (y324, false)) = some (r1, r2) := by first | (rw [hy324]; with_reducible exact H) | (have H2_ := (Option.bind_some _ _).symm.trans H; rw [hy324]; with_reducible exact H2_) | (have H2_ := (Option.bind_some _ _).symm.trans H; with_reducible exact H2_) | with_reducible exact H | (rw [hy324]; exact H) | exact H
  have Ny324 := Aside0.mk hy324; clear hy324; simp only [Option.some.injEq, Prod.mk.injEq] at H; obtain ⟨rfl, rfl⟩ := H
  go_enter Try.func41, Try.ntmps41
  go_wp2_with (first | ((with_reducible refine gate_callee (f := 68) rfl ?_); refine goesL_ (some 11) rfl rfl Try.func68 (by kernel_rfl) rfl #[.slice A0 l0.length c0, .int .i64 a1] rfl aq ?_; (with_reducible refine (spec_l7Ask.calls k _ _ l0 a1 false _ ?side1 ?side2 A3.out).mono ?_); (case side1 => exact cq HR0.out); (case side2 => exact HC0.out); rintro e w21 ⟨rfl, hb⟩; refine ⟨_, rfl, ?_⟩; have n0_ := Aside0.mk (below_step bq hb); clear HB; have HB := n0_; clear n0_; (try clear hb); (try clear hb2); (try clear hk); (try clear hi)) | ((with_reducible refine gate_dst (N := 13) rfl ?_); refine Kd.R_lit k41 _ 41 ?hg (N := 13) ?hd (xs := ([] : List (S41))) (inner := []) (ok := fun _ => True) (okp := fun _ => True) ?hr ?hp (fun _ hk => hk) trivial (Below.refl _ _) (Nat.le_refl _) (by simp) ?_; (case hd => rfl); (case hg => rfl); (case hr => first | (go_simp; done) | (go_simp; rfl)); (case hp => exact (Reps.none _ _)); intro v325 w22 ho23 hb hg_ hnew_; clear hg_ hnew_; (first | rw [← Ny324.out] at ho23 | (simp only [Int.reduceToNat] at ho23; rw [← Ny324.out] at ho23)); have n0_ := Aside0.mk (Kd.R_lower ho23 (below_size bq)); have n1_ := Aside0.mk (below_step bq hb); clear HB; have HO326 := n0_; have HB := n1_; clear n0_ n1_; clear hb ho23))
  go_ret2
  exact ⟨_, eq_, rq HO326, bq⟩

/-! ### laws_vCut: function 25, by hand -/
def laws_vCut.f (l0 : List Int) (a1 : Int) : Option (List Int) := if 0 ≤ a1 then (if l0.length + 1 < 140737488355328 then some (l0.drop a1.toNat ++ [(mn a1 (l0.length : Int)) % 256]) else none) else none
theorem vCut_info : (Try.prog.info? 5).map (fun i => (i.zero, i.size, i.bytes)) = some (some (.int .u8 0), 1, 1) := by kernel_rfl
set_option maxHeartbeats 8000000 in
set_option maxRecDepth 100000 in
theorem laws_vCut.calls (A0 : Option Addr) (c0 : Nat) (l0 : List Int) (a1 : Int) (r : List Int) (w : World) (hr0 : Kd.C (Kd.int .u8) w A0 l0.length l0) (hc0 : l0.length ≤ c0) (h : laws_vCut.f l0 a1 = some r) :
  Calls Try.prog 25 #[.slice A0 l0.length c0, .int .i64 a1] w fun e w' => ∃ v0_ : Value, e = .returned (v0_) ∧ Kd.R (Kd.int .u8) 5 w' w.heap.size (fun _ => True) v0_ r ∧ Below w.heap.size w w' := by
 unfold laws_vCut.f at h
 have HR0 := Aside0.mk hr0; have HC0 := Aside0.mk hc0; clear hr0 hc0; have HB := Aside0.mk (Below.refl w.heap.size w)
 by_cases c1 : 0 ≤ a1
 case neg => rw [if_neg c1] at h; cases h
 rw [if_pos c1] at h
 by_cases c2 : l0.length + 1 < 140737488355328
 case neg => rw [if_neg c2] at h; cases h
 rw [if_pos c2] at h; replace h := (Option.some.inj h).symm; have HS := Aside0.mk c2; clear c2
 by_cases c3 : a1 > (l0.length : Int)
 ·have hm : mn a1 (l0.length : Int) = (l0.length : Int) := by unfold mn; split <;> omega
  have hd : l0.drop a1.toNat = [] := List.drop_eq_nil_of_le (by omega); rw [hm, hd] at h; have c3b0 : decide ((l0.length : Int) < a1) = true := decide_eq_true c3; clear c3 hm hd; have Hr := Aside0.mk h; clear h; obtain ⟨y1, hy1⟩ : ∃ y_ : List Int, y_ = (([] : List Int)) := ⟨_, rfl⟩; have Ny1 := Aside0.mk hy1; clear hy1; obtain ⟨y2, hy2⟩ : ∃ y_ : List Int, y_ = (y1 ++ ([] : List Int)) := ⟨_, rfl⟩; have Ny2 := Aside0.mk hy2; clear hy2; obtain ⟨y3, hy3⟩ : ∃ y_ : List Int, y_ = (y2 ++ [((l0.length : Int)) % 256]) := ⟨_, rfl⟩; have Ny3 := Aside0.mk hy3; clear hy3
  have er : r = y3 := by rw [Hr.out, Ny3.out, Ny2.out, Ny1.out]; rfl
  subst er; clear Hr
  go_enter Try.func25, Try.ntmps25
  go_wp2_with (first
   | ((with_reducible refine gate_dst (N := 11) rfl ?_); refine Kd.R_lit (Kd.int .u8) _ 5 ?hg (N := 11) ?hd (xs := ([] : List Int)) (inner := []) (ok := fun _ => True) (okp := fun _ => True) ?hr ?hp (fun _ hk => hk) trivial (Below.refl _ _) (Nat.le_refl _) (by simp) ?_; (case hd => rfl); (case hg => rfl); (case hr => first | (go_simp; done) | (go_simp; rfl)); (case hp => exact (Reps.none _ _)); intro v1 w8 ho9 hb hg_ hnew_; clear hg_ hnew_; (first | rw [← Ny1.out] at ho9 | (simp only [Int.reduceToNat] at ho9; rw [← Ny1.out] at ho9)); have n0_ := Aside0.mk (Kd.R_lower ho9 (below_size bq)); have n1_ := Aside0.mk (below_step bq hb); clear HB; have HO1 := n0_; have HB := n1_; clear n0_ n1_; clear hb ho9; obtain ⟨i010, hi010, _, hsz10, _⟩ := info_parts vCut_info; obtain ⟨A10, hcut10, hA10, hC10⟩ := print_drop_of (P := Try.prog) (Value.int .u8) 0 34 5 .i64 Try.underlying34 hi010 hsz10 A0 c0 l0 (l0.length : Int) (by omega) (by omega) HC0.out; clear hA10 hC10 hi010 hsz10)
   | ((with_reducible refine gate_builtin (b := .append) (xs := #[.tmp 11, .tmp 14]) rfl ?_); at_builtin; refine Kd.R_append_rows (Kd.int .u8) (w0 := w) w.heap.size rfl (.tmp 11) (.tmp 14) 34 5 (.int .u8 0) 1 rfl Try.underlying34 vCut_info rfl (by decide) (by omega) v1 y1 ([] : List Int) _ _ _ (fun _ => True) (fun _ => False) rfl rfl ?aO ?aR (fun _ _ h => h) (fun _ h => h.elim) ?aF ?aB ?aS ?aL ?_; (case aR => exact ⟨rfl, by simp, fun h => absurd h (Nat.lt_irrefl 0)⟩); (case aB => exact bq); (case aF => exact (fun _ _ => trivial)); (case aO => exact (rq HO1)); (case aS => exact (below_size bq)); (case aL => rw [Ny1.out]; simp); intro v2 w11 ho hb hg hat; rw [← Ny2.out] at ho; have n0_ := Aside0.mk (hb); have n1_ := Aside0.mk (ho); clear HB; clear HO1; have HB := n0_; have HO2 := n1_; clear n0_ n1_; clear ho hb hg hat)
   | ((with_reducible refine gate_builtin (b := .append) (xs := #[.tmp 15, .tmp 18]) rfl ?_); at_builtin; refine Kd.R_append (Kd.int .u8) (w0 := w) w.heap.size rfl (.tmp 15) (.tmp 18) 34 5 (.int .u8 0) 1 rfl Try.underlying34 vCut_info rfl (by decide) (by omega) v2 y2 (((l0.length : Int)) % 256) [.int .u8 (((l0.length : Int)) % 256)] (fun _ => True) (fun _ => False) rfl rfl ?aP (fun _ hk => hk.elim) ?aF ?aO ?aB ?aS ?aL ?_; (case aP => exact rfl); (case aB => exact bq); (case aF => exact (fun _ _ => trivial)); (case aO => exact (rq HO2)); (case aS => exact (below_size bq)); (case aL => rw [Ny2.out, Ny1.out]; simp); intro v3 w12 ho hb hg hat; rw [← Ny3.out] at ho; have n0_ := Aside0.mk (hb); have n1_ := Aside0.mk (ho); clear HB; clear HO2; have HB := n0_; have HO3 := n1_; clear n0_ n1_; clear ho hb hg hat))
  go_ret; exact ⟨_, by first | rfl | (simp <;> rfl), rq HO3, bq⟩
 ·have hm : mn a1 (l0.length : Int) = a1 := by unfold mn; split <;> omega
  rw [hm] at h
  have c4 : a1 ≤ (l0.length : Int) := by omega
  have c3b0 : decide ((l0.length : Int) < a1) = false := decide_eq_false c3; clear c3 hm; have c13b0 := eq_true c1; have c13b1 : decide (0 ≤ a1) = true := decide_eq_true c1; clear c1; have c14b0 := eq_true c4; have c14b1 : decide (a1 ≤ (l0.length : Int)) = true := decide_eq_true c4; clear c4; have Hr := Aside0.mk h; clear h; obtain ⟨y1, hy1⟩ : ∃ y_ : List Int, y_ = (([] : List Int)) := ⟨_, rfl⟩; have Ny1 := Aside0.mk hy1; clear hy1; obtain ⟨y2, hy2⟩ : ∃ y_ : List Int, y_ = (y1 ++ (l0.drop (a1 : Int).toNat)) := ⟨_, rfl⟩; have Ny2 := Aside0.mk hy2; clear hy2; obtain ⟨y3, hy3⟩ : ∃ y_ : List Int, y_ = (y2 ++ [(a1) % 256]) := ⟨_, rfl⟩; have Ny3 := Aside0.mk hy3; clear hy3
  have er : r = y3 := by rw [Hr.out, Ny3.out, Ny2.out, Ny1.out]; rfl
  subst er; clear Hr
  go_enter Try.func25, Try.ntmps25
  go_wp2_with (first
   | ((with_reducible refine gate_dst (N := 11) rfl ?_); refine Kd.R_lit (Kd.int .u8) _ 5 ?hg (N := 11) ?hd (xs := ([] : List Int)) (inner := []) (ok := fun _ => True) (okp := fun _ => True) ?hr ?hp (fun _ hk => hk) trivial (Below.refl _ _) (Nat.le_refl _) (by simp) ?_; (case hd => rfl); (case hg => rfl); (case hr => first | (go_simp; done) | (go_simp; rfl)); (case hp => exact (Reps.none _ _)); intro v1 w8 ho9 hb hg_ hnew_; clear hg_ hnew_; (first | rw [← Ny1.out] at ho9 | (simp only [Int.reduceToNat] at ho9; rw [← Ny1.out] at ho9)); have n0_ := Aside0.mk (Kd.R_lower ho9 (below_size bq)); have n1_ := Aside0.mk (below_step bq hb); clear HB; have HO1 := n0_; have HB := n1_; clear n0_ n1_; clear hb ho9; obtain ⟨i010, hi010, _, hsz10, _⟩ := info_parts vCut_info; obtain ⟨A10, hcut10, hA10, hC10⟩ := print_drop_of (P := Try.prog) (Value.int .u8) 0 34 5 .i64 Try.underlying34 hi010 hsz10 A0 c0 l0 a1 (of_decide_eq_true c13b1) (of_decide_eq_true c14b1) HC0.out; have HR2 := Aside0.mk (Kd.C_of_reads (h1 := fun _ => rfl) (hA10 _ (Kd.reads_of_C HR0.out))); clear hA10 hC10 hi010 hsz10)
   | ((with_reducible refine gate_builtin (b := .append) (xs := #[.tmp 11, .tmp 14]) rfl ?_); at_builtin; refine Kd.R_append_rows (Kd.int .u8) (w0 := w) w.heap.size rfl (.tmp 11) (.tmp 14) 34 5 (.int .u8 0) 1 rfl Try.underlying34 vCut_info rfl (by decide) (by omega) v1 y1 (l0.drop (a1 : Int).toNat) _ _ _ (fun _ => True) (fun _ => False) rfl rfl ?aO ?aR (fun _ _ h => h) (fun _ h => h.elim) ?aF ?aB ?aS ?aL ?_; (case aR => first | (rw [← show (l0.drop (a1 : Int).toNat).length = (l0.length - a1.toNat) from List.length_drop]; exact cq (Kd.C_below HR2.out HB.out)) | (exact cq (Kd.C_below HR2.out HB.out))); (case aB => exact bq); (case aF => exact (fun _ _ => trivial)); (case aO => exact (rq HO1)); (case aS => exact (below_size bq)); (case aL => have := HS.out; rw [Ny1.out]; (try rw [List.length_drop]); simp only [List.length_nil]; omega); intro v2 w11 ho hb hg hat; rw [← Ny2.out] at ho; have n0_ := Aside0.mk (hb); have n1_ := Aside0.mk (ho); clear HB; clear HO1; have HB := n0_; have HO2 := n1_; clear n0_ n1_; clear ho hb hg hat)
   | ((with_reducible refine gate_builtin (b := .append) (xs := #[.tmp 15, .tmp 18]) rfl ?_); at_builtin; refine Kd.R_append (Kd.int .u8) (w0 := w) w.heap.size rfl (.tmp 15) (.tmp 18) 34 5 (.int .u8 0) 1 rfl Try.underlying34 vCut_info rfl (by decide) (by omega) v2 y2 ((a1) % 256) [.int .u8 ((a1) % 256)] (fun _ => True) (fun _ => False) rfl rfl ?aP (fun _ hk => hk.elim) ?aF ?aO ?aB ?aS ?aL ?_; (case aP => exact rfl); (case aB => exact bq); (case aF => exact (fun _ _ => trivial)); (case aO => exact (rq HO2)); (case aS => exact (below_size bq)); (case aL => have := HS.out; rw [Ny2.out, Ny1.out, List.nil_append, List.length_drop]; omega); intro v3 w12 ho hb hg hat; rw [← Ny3.out] at ho; have n0_ := Aside0.mk (hb); have n1_ := Aside0.mk (ho); clear HB; clear HO2; have HB := n0_; have HO3 := n1_; clear n0_ n1_; clear ho hb hg hat))
  go_ret; exact ⟨_, by first | rfl | (simp <;> rfl), rq HO3, bq⟩

end Go.Proofs.Ytbjilpmnhghfhaa.XCh
