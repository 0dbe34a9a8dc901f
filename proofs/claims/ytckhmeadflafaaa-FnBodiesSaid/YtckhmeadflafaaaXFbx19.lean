/- Functions of the program as plain Lean functions, each with the proof that the machine's call does what it says: written by a program of this session out of the translation. -/
import Derived.Test.YtckhmeadflafaaaXFbx0
import Derived.Test.YtckhmeadflafaaaXFbx9
import Derived.Test.YtckhmeadflafaaaXFbx11
import Derived.Test.YtckhmeadflafaaaXFbx18
namespace Go.Proofs.Ytckhmeadflafaaa.XFb
open Go.RowKit Go.Proofs.YtckhmeadflafaaaW.PrintWords Go.Proofs.YtckhmeadflafaaaW.PrintLast Go.Proofs.YtckhmeadflafaaaW.PrintMore
attribute [local go_sem] max2_int min2_int max_two min_two max_three min_three max_four min_four   -- for this text's walks alone
set_option linter.unusedVariables false
set_option linter.unusedSimpArgs false

/-! ### impl_put: function 72 -/
def impl_put.l0 : Nat → List (S49) → List (S49) → Int → Int → Int → Int → Option ((List (S49)))
 | 0, _, _, _, _, _, _ => none
 | k + 1, x4, x13, x14, x15, x382000, x382001 => if x15 < x14 then (if 0 ≤ x15 then (if x15 < (x13.length : Int) then (if x4.length < 8796093022208 then (impl_put.l0 k (x4 ++ [(⟨wrap64 (((rd_T49 x13 x15).f0) - x382000), wrap64 (((rd_T49 x13 x15).f1) - x382001)⟩ : S49)]) x13 x14 (wrap64 (x15 + 1)) x382000 x382001) else (none)) else (none)) else (none)) else ((slices_SortFunc_compareCells.f x4).bind fun t387 => (some t387))
def impl_put.f (k : Nat) (l0 : List (S49)) : Option ((List (S49))) := if (l0.length : Int) = 0 then (some ([] : List (S49))) else ((impl_leastOf.f k l0).bind fun bt376 => (impl_put.l0 k (([] : List (S49))) l0 (l0.length : Int) 0 bt376.1 bt376.2))
theorem impl_put.mono_l : ∀ k, (∀ y0 y1 y2 y3 y4 y5, LeO (impl_put.l0 k y0 y1 y2 y3 y4 y5) (impl_put.l0 (k + 1) y0 y1 y2 y3 y4 y5))
 | 0 => fun _ _ _ _ _ _ r h => by simp [impl_put.l0] at h
 | k + 1 => by
  have ih0 := impl_put.mono_l k
  ·intro y0 y1 y2 y3 y4 y5
   unfold impl_put.l0
   repeat' first
   | (with_reducible exact ih0 _ _ _ _ _ _)
   | (with_reducible exact impl_leastOf.mono _ _)
   | (with_reducible exact LeO.refl _)
   | (with_reducible exact LeO.none _)
   | (with_reducible refine LeO.ite ?_ ?_)
   | (with_reducible refine LeO.bind ?_ (fun _ => ?_))
theorem impl_put.mono : ∀ a0 k, LeO (impl_put.f k a0) (impl_put.f (k + 1) a0) := by
 intro a0 k; have ih0 := impl_put.mono_l k
 unfold impl_put.f
 repeat' first
   | (with_reducible exact ih0 _ _ _ _ _ _)
   | (with_reducible exact impl_leastOf.mono _ _)
   | (with_reducible exact LeO.refl _)
   | (with_reducible exact LeO.none _)
   | (with_reducible refine LeO.ite ?_ ?_)
   | (with_reducible refine LeO.bind ?_ (fun _ => ?_))
set_option maxHeartbeats 8000000 in
set_option maxRecDepth 100000 in
theorem impl_put.calls (k : Nat) (A0 : Option Addr) (c0 : Nat) (l0 : List (S49)) (r : List (S49)) (w : World) (hr0 : Kd.C k49 w A0 l0.length l0) (hc0 : l0.length ≤ c0) (h : impl_put.f k l0 = some r) :
  Calls Try.prog 72 #[.slice A0 l0.length c0] w fun e w' => ∃ v0_ : Value, e = .returned (v0_) ∧ Kd.R k49 49 w' w.heap.size (fun _ => True) v0_ r ∧ Below w.heap.size w w' := by
 have hu49 := Try.underlying49; have HR0 := ak hr0; have HC0 := ak hc0; clear hr0 hc0; have HB := ak (Below.refl w.heap.size w); have H : (if (l0.length : Int) = 0 then (some ([] : List (S49))) else ((impl_leastOf.f k l0).bind fun bt376 => (impl_put.l0 k (([] : List (S49))) l0 (l0.length : Int) 0 bt376.1 bt376.2))) = some r := h; clear h
 by_cases c2 : (l0.length : Int) = 0
 ·rw [if_pos c2] at H
  have c2b0 : ((l0.length : Int) == 0) = true := beq_iff_eq.mpr c2; have c2b1 : ((l0.length : Int) != 0) = false := bne_eq_false_iff_eq.mpr c2; clear c2; obtain rfl := Option.some.inj H
  go_enter Try.func72, Try.ntmps72
  go_wp2; go_ret; exact ⟨_, eq_, by first | exact Kd.R_nil _ _ _ _ _ | exact Kd.N_nil _ _ _ _ _ | exact Kd.V_nil _ _ _ _ _ | exact Kd.Q_nil _ _ _ _ _ | exact Kd.S_nil _ _ _ _ _, bq⟩
 ·rw [if_neg c2] at H
  have c2b0 : ((l0.length : Int) == 0) = false := beq_eq_false_iff_ne.mpr c2; have c2b1 : ((l0.length : Int) != 0) = true := bne_iff_ne.mpr c2
  have c2b2 : ¬ (l0 = []) := fun h_ => c2 (by rw [h_]; rfl)
  obtain ⟨⟨t376, t377⟩, A30, H⟩ := Option.bind_eq_some_iff.mp H
  (try dsimp only at H)
  have A3 := ak A30; clear A30; obtain ⟨y378, hy378⟩ : ∃ y_ : List (S49), y_ = (([] : List (S49))) := ⟨_, rfl⟩
  replace H : (impl_put.l0 k y378 l0 (l0.length : Int) 0 t376 t377) = some r := by first | (rw [hy378]; with_reducible exact H) | (have H2_ := (Option.bind_some _ _).symm.trans H; rw [hy378]; with_reducible exact H2_) | (have H2_ := (Option.bind_some _ _).symm.trans H; with_reducible exact H2_) | with_reducible exact H | (rw [hy378]; exact H) | exact H
  have Ny378 := ak hy378; clear hy378; have H' := ak H; clear H
  go_enter Try.func72, Try.ntmps72
  go_wp2_with (first | ((with_reducible refine gate_callee (f := 96) rfl ?_); refine goesL_ (some 11) rfl rfl Try.func96 (by kernel_rfl) rfl #[.slice A0 l0.length c0] rfl aq ?_; (with_reducible refine (impl_leastOf.calls k _ _ l0 t376 t377 _ ?side1 ?side2 A3.out).mono ?_); (case side1 => exact cq HR0.out); (case side2 => exact HC0.out); rintro e w4 ⟨rfl, hb⟩; refine ⟨_, rfl, ?_⟩; have n0_ := ak (below_step bq hb); clear HB; have HB := n0_; clear n0_; (try clear hb)) | ((with_reducible refine gate_dst (N := 12) rfl ?_); refine Kd.R_lit k49 _ 49 ?hg (N := 12) ?hd (xs := ([] : List (S49))) (inner := []) (ok := fun _ => True) (okp := fun _ => True) ?hr ?hp (fun _ hk => hk) trivial (Below.refl _ _) (Nat.le_refl _) (by simp) ?_; (case hd => rfl); (case hg => rfl); (case hr => (go_simp; done)); (case hp => exact (Reps.none _ _)); intro v379 w5 ho6 hb hg_ hnew_; clear hg_ hnew_; (rw [← Ny378.out] at ho6); have n0_ := ak (Kd.R_lower ho6 (below_size bq)); have n1_ := ak (below_step bq hb); clear HB; have HO380 := n0_; have HB := n1_; clear n0_ n1_; clear hb ho6) | ((with_reducible refine gate_dst (N := 3) rfl ?_); refine box_event ?hg (N := 3) ?hd (cs := #[.int .i64 0, .int .i64 0]) (t := 49) ?hr ?_; (case hd => rfl); (case hg => rfl); (case hr => (go_simp; done)); intro gb381 hg w7 hbox hb; have n0_ := ak (Kd.R_below (Kd.R_elderB (rq HO380) gb381 (Nat.le_of_eq hg.symm)) hb); have n1_ := ak (below_step bq hb); have n2_ := ak (hbox); have n3_ := ak ((by rw [hg]; exact (below_size bq) : w.heap.size ≤ gb381)); have n4_ := ak ((by rw [hg]; exact (below_size bq) : w.heap.size ≤ gb381)); clear HO380; clear HB; have HO380 := n0_; have HB := n1_; have BK381 := n2_; have GW381 := n3_; have GE381 := n4_; clear n0_ n1_ n2_ n3_ n4_; clear hb hbox hg; have hcz8_0 : w7.cell? ⟨gb381, 0, none⟩ = some (.int .i64 0) := (blk_cell BK381.out 0).trans rfl; have hcz8_1 : w7.cell? ⟨gb381, 1, none⟩ = some (.int .i64 0) := (blk_cell BK381.out 1).trans rfl; have hfz8_0 := blk_frozen BK381.out 0; have hfz8_1 := blk_frozen BK381.out 1))
  go_loopg [4, 15] k (fun kq v4 v15 w' => ∃ (x4_1 : List (S49)) (x15_1 : Int), v15 = .int .i64 x15_1 ∧ Aside0 (impl_put.l0 kq x4_1 l0 (l0.length : Int) x15_1 t376 t377 = some r) ∧ Aside0 (kq ≤ k) ∧ Aside0 (Kd.R k49 49 w' w.heap.size (fun k_ => k_ ≠ gb381) v4 x4_1) ∧ Aside0 (w'.heap[gb381]? = some (.cells #[.int .i64 t376, .int .i64 t377] 49 (0, 0))) ∧ Aside0 (Below w.heap.size w w'))
  case atStart => exact ⟨(y378), (0), sq, H', ⟨Nat.le_refl _⟩, ⟨by exact Kd.R_mono (Kd.R_far (p := ⟨gb381, 1, none⟩) (Kd.R_far (p := ⟨gb381, 0, none⟩) (Kd.R_mono HO380.out (fun k_ hk => (⟨hk, hk.2⟩ : _ ∧ k_ ≠ gb381))) (fun _ hk => hk.2) (.int .i64 t376)) (fun _ hk => hk.2) (.int .i64 t377)) (fun _ hk => hk.1.2)⟩, ⟨by refine blk_put (cs := #[.int .i64 t376, .int .i64 0]) ?_ 1 _ rfl; refine blk_put (cs := #[.int .i64 0, .int .i64 0]) ?_ 0 _ rfl; exact BK381.out⟩, ⟨bs⟩⟩
  case round =>
   clear H'; (try clear c2); (try clear c2b0); (try clear c2b1); (try clear c2b2); (try clear hcz8_0); (try clear hcz8_1); (try clear hfz8_0); (try clear hfz8_1); obtain ⟨x4_1, x15_1, rfl, HA, HK1, HO_4, BK381, HB⟩ := hrel
   cases gk with
   | zero => exact absurd HA.out (by simp [impl_put.l0])
   | succ k1 =>
    have H := HA.out; clear HA; simp only [impl_put.l0] at H
    by_cases c9 : x15_1 < (l0.length : Int)
    ·rw [if_pos c9] at H
     have c9b0 := decide_eq_true c9; clear c9
     by_cases c10 : 0 ≤ x15_1
     ·rw [if_pos c10] at H
      have c10b0 := decide_eq_true c10; clear c10
      by_cases c11 : x15_1 < (l0.length : Int)
      ·rw [if_pos c11] at H
       have c11b0 := decide_eq_true c11; clear c11
       by_cases c12 : x4_1.length < 8796093022208
       ·rw [if_pos c12] at H
        have LMc12 := ak c12; clear c12; obtain ⟨y384, hy384⟩ : ∃ y_ : List (S49), y_ = (x4_1 ++ [(⟨wrap64 (((rd_T49 l0 x15_1).f0) - t376), wrap64 (((rd_T49 l0 x15_1).f1) - t377)⟩ : S49)]) := ⟨_, rfl⟩
        replace H : (impl_put.l0 k1 y384 l0 (l0.length : Int) (wrap64 (x15_1 + 1)) t376 t377) = some r := by first | (rw [hy384]; with_reducible exact H) | (have H2_ := (Option.bind_some _ _).symm.trans H; rw [hy384]; with_reducible exact H2_) | (have H2_ := (Option.bind_some _ _).symm.trans H; with_reducible exact H2_) | with_reducible exact H | (rw [hy384]; exact H) | exact H
        have Ny384 := ak hy384; clear hy384; have H' := ak H; clear H; have p382 : 0 ≤ (x15_1 : Int) := dq; have q382 : x15_1 < (l0.length : Int) := dq; obtain ⟨ad382, e382, hx382_0, hx382_1⟩ := at_T49 HR0.out x15_1 p382 q382; cases e382; replace hx382_0 := hb_ HB hx382_0; replace hx382_1 := hb_ HB hx382_1; replace p382 := eq_true p382; replace q382 := eq_true q382
        go_wp2_with (first | ((with_reducible refine gate_dst (N := 6) rfl ?_); refine box_event ?hg (N := 6) ?hd (cs := #[.int .i64 0, .int .i64 0]) (t := 49) ?hr ?_; (case hd => rfl); (case hg => rfl); (case hr => (go_simp; done)); intro gb383 hg w13 hbox hb; have n0_ := ak (Kd.R_below (Kd.R_elderB (rq HO_4) gb383 (Nat.le_of_eq hg.symm)) hb); have n1_ := ak (blk_below (g := gb381) (o := .cells #[.int .i64 t376, .int .i64 t377] 49 (0, 0)) (uq BK381) hb); have n2_ := ak (below_step bs hb); have n3_ := ak (hbox); have n4_ := ak ((by rw [hg]; exact (below_size bs) : w.heap.size ≤ gb383)); have n5_ := ak ((by rw [hg]; exact (below_size bs) : w.heap.size ≤ gb383)); have n6_ := ak ((by rw [hg]; exact Nat.ne_of_lt (blk_lt (g := gb381) (o := .cells #[.int .i64 t376, .int .i64 t377] 49 (0, 0)) (uq BK381)) : gb381 ≠ gb383)); have n7_ := ak ((by rw [hg]; exact Nat.ne_of_gt (blk_lt (g := gb381) (o := .cells #[.int .i64 t376, .int .i64 t377] 49 (0, 0)) (uq BK381)) : gb383 ≠ gb381)); clear HO_4; clear BK381; clear HB; have HO_4 := n0_; have BK381 := n1_; have HB := n2_; have BK383 := n3_; have GW383 := n4_; have GE383 := n5_; have NB381_383 := n6_; have NB383_381 := n7_; clear n0_ n1_ n2_ n3_ n4_ n5_ n6_ n7_; clear hb hbox hg; have hnb14 := NB383_381.out; have hnc14 := NB381_383.out; have hcz15_0 : w13.cell? ⟨gb383, 0, none⟩ = some (.int .i64 0) := (blk_cell BK383.out 0).trans rfl; have hcz15_1 : w13.cell? ⟨gb383, 1, none⟩ = some (.int .i64 0) := (blk_cell BK383.out 1).trans rfl; have hfz15_0 := blk_frozen BK383.out 0; have hfz15_1 := blk_frozen BK383.out 1; have hcz16_0 : w13.cell? ⟨gb381, 0, none⟩ = some (.int .i64 t376) := (blk_cell BK381.out 0).trans rfl; have hcz16_1 : w13.cell? ⟨gb381, 1, none⟩ = some (.int .i64 t377) := (blk_cell BK381.out 1).trans rfl; have hfz16_0 := blk_frozen BK381.out 0; have hfz16_1 := blk_frozen BK381.out 1) | ((with_reducible refine gate_builtin (b := .append) (xs := #[.tmp 19, .tmp 31]) rfl ?_); at_builtin; refine Kd.R_append k49 (w0 := w) w.heap.size rfl (.tmp 19) (.tmp 31) 22 49 (.agg #[(.int .i64 0), (.int .i64 0)]) 16 rfl Try.underlying22 info49 rfl (by decide) (by omega) u4 x4_1 (⟨wrap64 (((rd_T49 l0 x15_1).f0) - t376), wrap64 (((rd_T49 l0 x15_1).f1) - t377)⟩ : S49) [.int .i64 (wrap64 (((rd_T49 l0 x15_1).f0) - t376)), .int .i64 (wrap64 (((rd_T49 l0 x15_1).f1) - t377))] (fun k_ => k_ ≠ gb381 ∧ k_ ≠ gb383) (fun _ => False) rfl (by (go_simp; done)) ?aP (fun _ hk => hk.elim) ?aF ?aO ?aB ?aS ?aL ?_; (case aP => exact k49_mkM _ _ _ (⟨wrap64 (((rd_T49 l0 x15_1).f0) - t376), wrap64 (((rd_T49 l0 x15_1).f1) - t377)⟩ : S49)); (case aB => exact bs); (case aF => exact (fun k_ hk => ⟨Kd.freshB (g := gb381) (o := .cells #[.int .i64 t376, .int .i64 t377] 49 (0, 0)) (by refine blk_far ?_ NB381_383.out _; refine blk_far ?_ NB381_383.out _; exact BK381.out) k_ hk, Kd.freshB (g := gb383) (o := .cells #[.int .i64 ((rd_T49 l0 x15_1).f0), .int .i64 ((rd_T49 l0 x15_1).f1)] 49 (0, 0)) (by refine blk_put (cs := #[.int .i64 ((rd_T49 l0 x15_1).f0), .int .i64 0]) ?_ 1 _ rfl; refine blk_put (cs := #[.int .i64 0, .int .i64 0]) ?_ 0 _ rfl; exact BK383.out) k_ hk⟩)); (case aO => exact (by exact Kd.R_mono (Kd.R_far (p := ⟨gb383, 1, none⟩) (Kd.R_far (p := ⟨gb383, 0, none⟩) (Kd.R_mono HO_4.out (fun k_ hk => (⟨hk, hk.2⟩ : _ ∧ k_ ≠ gb383))) (fun _ hk => hk.2) (.int .i64 ((rd_T49 l0 x15_1).f0))) (fun _ hk => hk.2) (.int .i64 ((rd_T49 l0 x15_1).f1))) (fun _ hk => ⟨hk.1.1, hk.1.2⟩))); (case aS => exact (below_size bs)); (case aL => have := LMc12.out; omega); intro v385 w17 ho hb hg hat; rw [← Ny384.out] at ho; have n0_ := ak (blk_grown (g := gb381) (o := .cells #[.int .i64 t376, .int .i64 t377] 49 (0, 0)) (by refine blk_far ?_ NB381_383.out _; refine blk_far ?_ NB381_383.out _; exact BK381.out) hg (Kd.R_away HO_4.out (fun _ hk => hk.1))); have n1_ := ak (blk_grown (g := gb383) (o := .cells #[.int .i64 ((rd_T49 l0 x15_1).f0), .int .i64 ((rd_T49 l0 x15_1).f1)] 49 (0, 0)) (by refine blk_put (cs := #[.int .i64 ((rd_T49 l0 x15_1).f0), .int .i64 0]) ?_ 1 _ rfl; refine blk_put (cs := #[.int .i64 0, .int .i64 0]) ?_ 0 _ rfl; exact BK383.out) hg (Kd.R_away HO_4.out (fun _ hk => hk.2))); have n2_ := ak (hb); have n3_ := ak (ho); clear BK381; clear BK383; clear HB; clear HO_4; have BK381 := n0_; have BK383 := n1_; have HB := n2_; have HO386 := n3_; clear n0_ n1_ n2_ n3_; clear ho hb hg hat))
        go_roundg k1
        case measure => have := HK1.out; omega
        case rel => exact ⟨(y384), (wrap64 (x15_1 + 1)), sq, H', ⟨by have := HK1.out; omega⟩, ⟨by exact Kd.R_mono HO386.out (fun _ hk => hk.1)⟩, ⟨by exact BK381.out⟩, ⟨bs⟩⟩
       ·rw [if_neg c12] at H
        exact absurd H (by simp)
      ·rw [if_neg c11] at H
       exact absurd H (by simp)
     ·rw [if_neg c10] at H
      exact absurd H (by simp)
    ·rw [if_neg c9] at H
     have c9b0 := decide_eq_false c9; clear c9; obtain ⟨t387, A180, H⟩ := Option.bind_eq_some_iff.mp H
     have A18 := ak A180; clear A180; obtain rfl := Option.some.inj H; obtain ⟨Ao19, co19, eo19⟩ := Kd.R_slice HO_4.out; subst eo19
     go_wp2_with (((with_reducible refine gate_callee (f := 111) rfl ?_); refine goesL_ (some 35) rfl rfl Try.func111 (by kernel_rfl) rfl #[.slice Ao19 x4_1.length co19, .func (.func 84) #[] #[]] rfl aq ?_; (with_reducible refine (slices_SortFunc_compareCells.calls (fun k_ => some k_ = (.slice Ao19 x4_1.length co19 : Value).ownBlock) (.slice Ao19 x4_1.length co19) x4_1 t387 w _ ?side1 ?side2 A18.out).mono ?_); (case side1 => repeat ((with_reducible exact HB.out))); (case side2 => exact Kd.R_tight rfl HO_4.out); rintro e w20 ⟨rfl, hy0, hb, hkp⟩; refine ⟨_, rfl, ?_⟩; have n0_ := ak (Kd.R_reok rfl hy0 (fun k_ e_ => HO_4.out.1 k_ e_)); have n1_ := ak (blk_kept (uq BK381) hkp (fun hs_ => (fun e_ => (Kd.R_away HO_4.out (fun _ hk => hk)) e_) hs_)); have n2_ := ak (hb); clear HO_4; clear BK381; clear HB; have HO_4 := n0_; have BK381 := n1_; have HB := n2_; clear n0_ n1_ n2_; (try clear hb); (try clear hkp); (try clear hy0)))
     go_ret; exact ⟨_, eq_, by exact Kd.R_mono HO_4.out (fun _ hk => trivial), bs⟩

/-! ### impl_cellsBy_MirrorBody_1: function 102 -/
def impl_cellsBy_MirrorBody_1.l0 : Nat → List (S49) → List (S49) → Int → Int → Option ((List (S49)))
 | 0, _, _, _, _ => none
 | k + 1, x5, x9, x10, x11 => if x11 < x10 then (if 0 ≤ x11 then (if x11 < (x9.length : Int) then ((impl_MirrorBody_1.f ((rd_T49 x9 x11).f0) ((rd_T49 x9 x11).f1)).bind fun bt393 => (if x5.length < 8796093022208 then (impl_cellsBy_MirrorBody_1.l0 k (x5 ++ [(⟨bt393.1, bt393.2⟩ : S49)]) x9 x10 (wrap64 (x11 + 1))) else (none))) else (none)) else (none)) else ((impl_put.f k x5).bind fun t398 => (some t398))
def impl_cellsBy_MirrorBody_1.f (k : Nat) (l0 : List (S49)) : Option ((List (S49))) := impl_cellsBy_MirrorBody_1.l0 k (([] : List (S49))) l0 (l0.length : Int) 0
theorem impl_cellsBy_MirrorBody_1.mono_l : ∀ k, (∀ y0 y1 y2 y3, LeO (impl_cellsBy_MirrorBody_1.l0 k y0 y1 y2 y3) (impl_cellsBy_MirrorBody_1.l0 (k + 1) y0 y1 y2 y3))
 | 0 => fun _ _ _ _ r h => by simp [impl_cellsBy_MirrorBody_1.l0] at h
 | k + 1 => by
  have ih0 := impl_cellsBy_MirrorBody_1.mono_l k
  ·intro y0 y1 y2 y3
   unfold impl_cellsBy_MirrorBody_1.l0
   repeat' first
   | (with_reducible exact ih0 _ _ _ _)
   | (with_reducible exact impl_put.mono _ _)
   | (with_reducible exact LeO.refl _)
   | (with_reducible exact LeO.none _)
   | (with_reducible refine LeO.ite ?_ ?_)
   | (with_reducible refine LeO.bind ?_ (fun _ => ?_))
theorem impl_cellsBy_MirrorBody_1.mono : ∀ a0 k, LeO (impl_cellsBy_MirrorBody_1.f k a0) (impl_cellsBy_MirrorBody_1.f (k + 1) a0) := by
 intro a0 k; have ih0 := impl_cellsBy_MirrorBody_1.mono_l k
 unfold impl_cellsBy_MirrorBody_1.f
 repeat' first
   | (with_reducible exact ih0 _ _ _ _)
   | (with_reducible exact impl_put.mono _ _)
   | (with_reducible exact LeO.refl _)
   | (with_reducible exact LeO.none _)
   | (with_reducible refine LeO.ite ?_ ?_)
   | (with_reducible refine LeO.bind ?_ (fun _ => ?_))
set_option maxHeartbeats 8000000 in
set_option maxRecDepth 100000 in
theorem impl_cellsBy_MirrorBody_1.calls (k : Nat) (A0 : Option Addr) (c0 : Nat) (l0 : List (S49)) (r : List (S49)) (w : World) (hr0 : Kd.C k49 w A0 l0.length l0) (hc0 : l0.length ≤ c0) (h : impl_cellsBy_MirrorBody_1.f k l0 = some r) :
  Calls Try.prog 102 #[.slice A0 l0.length c0, .func (.func 103) #[] #[]] w fun e w' => ∃ v0_ : Value, e = .returned (v0_) ∧ Kd.R k49 49 w' w.heap.size (fun _ => True) v0_ r ∧ Below w.heap.size w w' := by
 have hu49 := Try.underlying49; have HR0 := ak hr0; have HC0 := ak hc0; clear hr0 hc0; have HB := ak (Below.refl w.heap.size w); have H : (impl_cellsBy_MirrorBody_1.l0 k (([] : List (S49))) l0 (l0.length : Int) 0) = some r := h; clear h; obtain ⟨y388, hy388⟩ : ∃ y_ : List (S49), y_ = (([] : List (S49))) := ⟨_, rfl⟩
 replace H : (impl_cellsBy_MirrorBody_1.l0 k y388 l0 (l0.length : Int) 0) = some r := by first | (rw [hy388]; with_reducible exact H) | (have H2_ := (Option.bind_some _ _).symm.trans H; rw [hy388]; with_reducible exact H2_) | (have H2_ := (Option.bind_some _ _).symm.trans H; with_reducible exact H2_) | with_reducible exact H | (rw [hy388]; exact H) | exact H
 have Ny388 := ak hy388; clear hy388; have H' := ak H; clear H
 go_enter Try.func102, Try.ntmps102
 go_wp2_with (((with_reducible refine gate_dst (N := 8) rfl ?_); refine Kd.R_lit k49 _ 49 ?hg (N := 8) ?hd (xs := ([] : List (S49))) (inner := []) (ok := fun _ => True) (okp := fun _ => True) ?hr ?hp (fun _ hk => hk) trivial (Below.refl _ _) (Nat.le_refl _) (by simp) ?_; (case hd => rfl); (case hg => rfl); (case hr => (go_simp; done)); (case hp => exact (Reps.none _ _)); intro v389 w2 ho3 hb hg_ hnew_; clear hg_ hnew_; (rw [← Ny388.out] at ho3); have n0_ := ak (Kd.R_lower ho3 (below_size bq)); have n1_ := ak (below_step bq hb); clear HB; have HO390 := n0_; have HB := n1_; clear n0_ n1_; clear hb ho3))
 go_loopg [5, 11] k (fun kq v5 v11 w' => ∃ (x5_1 : List (S49)) (x11_1 : Int), v11 = .int .i64 x11_1 ∧ Aside0 (impl_cellsBy_MirrorBody_1.l0 kq x5_1 l0 (l0.length : Int) x11_1 = some r) ∧ Aside0 (kq ≤ k) ∧ Aside0 (Kd.R k49 49 w' w.heap.size (fun _ => True) v5 x5_1) ∧ Aside0 (Below w.heap.size w w'))
 case atStart => exact ⟨(y388), (0), sq, H', ⟨Nat.le_refl _⟩, ⟨rq HO390⟩, ⟨bq⟩⟩
 case round =>
  clear H'; obtain ⟨x5_1, x11_1, rfl, HA, HK1, HO_5, HB⟩ := hrel
  cases gk with
  | zero => exact absurd HA.out (by simp [impl_cellsBy_MirrorBody_1.l0])
  | succ k1 =>
   have H := HA.out; clear HA; simp only [impl_cellsBy_MirrorBody_1.l0] at H
   by_cases c4 : x11_1 < (l0.length : Int)
   ·rw [if_pos c4] at H
    have c4b0 := decide_eq_true c4; clear c4
    by_cases c5 : 0 ≤ x11_1
    ·rw [if_pos c5] at H
     have c5b0 := decide_eq_true c5; clear c5
     by_cases c6 : x11_1 < (l0.length : Int)
     ·rw [if_pos c6] at H
      have c6b0 := decide_eq_true c6; clear c6; obtain ⟨⟨t393, t394⟩, A70, H⟩ := Option.bind_eq_some_iff.mp H
      (try dsimp only at H)
      have A7 := ak A70; clear A70
      by_cases c8 : x5_1.length < 8796093022208
      ·rw [if_pos c8] at H
       have LMc8 := ak c8; clear c8; obtain ⟨y395, hy395⟩ : ∃ y_ : List (S49), y_ = (x5_1 ++ [(⟨t393, t394⟩ : S49)]) := ⟨_, rfl⟩
       replace H : (impl_cellsBy_MirrorBody_1.l0 k1 y395 l0 (l0.length : Int) (wrap64 (x11_1 + 1))) = some r := by first | (rw [hy395]; with_reducible exact H) | (have H2_ := (Option.bind_some _ _).symm.trans H; rw [hy395]; with_reducible exact H2_) | (have H2_ := (Option.bind_some _ _).symm.trans H; with_reducible exact H2_) | with_reducible exact H | (rw [hy395]; exact H) | exact H
       have Ny395 := ak hy395; clear hy395; have H' := ak H; clear H; have p391 : 0 ≤ (x11_1 : Int) := dq; have q391 : x11_1 < (l0.length : Int) := dq; obtain ⟨ad391, e391, hx391_0, hx391_1⟩ := at_T49 HR0.out x11_1 p391 q391; cases e391; replace hx391_0 := hb_ HB hx391_0; replace hx391_1 := hb_ HB hx391_1; replace p391 := eq_true p391; replace q391 := eq_true q391
       go_wp2_with (first | ((with_reducible refine gate_dst (N := 7) rfl ?_); refine box_event ?hg (N := 7) ?hd (cs := #[.int .i64 0, .int .i64 0]) (t := 49) ?hr ?_; (case hd => rfl); (case hg => rfl); (case hr => (go_simp; done)); intro gb392 hg w9 hbox hb; have n0_ := ak (Kd.R_below (Kd.R_elderB (rq HO_5) gb392 (Nat.le_of_eq hg.symm)) hb); have n1_ := ak (below_step bq hb); have n2_ := ak (hbox); have n3_ := ak ((by rw [hg]; exact (below_size bq) : w.heap.size ≤ gb392)); have n4_ := ak ((by rw [hg]; exact (below_size bq) : w.heap.size ≤ gb392)); clear HO_5; clear HB; have HO_5 := n0_; have HB := n1_; have BK392 := n2_; have GW392 := n3_; have GE392 := n4_; clear n0_ n1_ n2_ n3_ n4_; clear hb hbox hg; have hcz10_0 : w9.cell? ⟨gb392, 0, none⟩ = some (.int .i64 0) := (blk_cell BK392.out 0).trans rfl; have hcz10_1 : w9.cell? ⟨gb392, 1, none⟩ = some (.int .i64 0) := (blk_cell BK392.out 1).trans rfl; have hfz10_0 := blk_frozen BK392.out 0; have hfz10_1 := blk_frozen BK392.out 1) | (go_at_call 103; (with_reducible refine (impl_MirrorBody_1.calls ((rd_T49 l0 x11_1).f0) ((rd_T49 l0 x11_1).f1) t393 t394 _ A7.out).mono ?_); rintro e w11 ⟨rfl, hb⟩; have n0_ := ak (Kd.R_below (by exact (Kd.R_mono (Kd.R_far (p := ⟨gb392, 1, none⟩) (Kd.R_far (p := ⟨gb392, 0, none⟩) (Kd.R_mono HO_5.out (fun k_ hk => (⟨hk, hk.2⟩ : _ ∧ k_ ≠ gb392))) (fun _ hk => hk.2) (.int .i64 ((rd_T49 l0 x11_1).f0))) (fun _ hk => hk.2) (.int .i64 ((rd_T49 l0 x11_1).f1))) (fun _ h_ => h_.1))) hb); have n1_ := ak (blk_below (g := gb392) (o := .cells #[.int .i64 ((rd_T49 l0 x11_1).f0), .int .i64 ((rd_T49 l0 x11_1).f1)] 49 (0, 0)) (by refine blk_put (cs := #[.int .i64 ((rd_T49 l0 x11_1).f0), .int .i64 0]) ?_ 1 _ rfl; refine blk_put (cs := #[.int .i64 0, .int .i64 0]) ?_ 0 _ rfl; exact BK392.out) hb); have n2_ := ak (below_step bs hb); clear HO_5; clear BK392; clear HB; have HO_5 := n0_; have BK392 := n1_; have HB := n2_; clear n0_ n1_ n2_; (try clear hb)) | ((with_reducible refine gate_builtin (b := .append) (xs := #[.tmp 15, .tmp 19]) rfl ?_); at_builtin; refine Kd.R_append k49 (w0 := w) w.heap.size rfl (.tmp 15) (.tmp 19) 22 49 (.agg #[(.int .i64 0), (.int .i64 0)]) 16 rfl Try.underlying22 info49 rfl (by decide) (by omega) u5 x5_1 (⟨t393, t394⟩ : S49) [.int .i64 t393, .int .i64 t394] (fun k_ => k_ ≠ gb392) (fun _ => False) rfl rfl ?aP (fun _ hk => hk.elim) ?aF ?aO ?aB ?aS ?aL ?_; (case aP => exact k49_mkM _ _ _ (⟨t393, t394⟩ : S49)); (case aB => exact bs); (case aF => exact (fun k_ hk => Kd.freshB (g := gb392) (o := .cells #[.int .i64 ((rd_T49 l0 x11_1).f0), .int .i64 ((rd_T49 l0 x11_1).f1)] 49 (0, 0)) (uq BK392) k_ hk)); (case aO => exact (by exact Kd.R_mono HO_5.out (fun _ hk => hk.2))); (case aS => exact (below_size bs)); (case aL => have := LMc8.out; omega); intro v396 w12 ho hb hg hat; rw [← Ny395.out] at ho; have n0_ := ak (blk_grown (g := gb392) (o := .cells #[.int .i64 ((rd_T49 l0 x11_1).f0), .int .i64 ((rd_T49 l0 x11_1).f1)] 49 (0, 0)) (uq BK392) hg (Kd.R_away HO_5.out (fun _ hk => hk.2))); have n1_ := ak (hb); have n2_ := ak (ho); clear BK392; clear HB; clear HO_5; have BK392 := n0_; have HB := n1_; have HO397 := n2_; clear n0_ n1_ n2_; clear ho hb hg hat))
       go_roundg k1
       case measure => have := HK1.out; omega
       case rel => exact ⟨(y395), (wrap64 (x11_1 + 1)), sq, H', ⟨by have := HK1.out; omega⟩, ⟨by exact Kd.R_mono HO397.out (fun _ hk => trivial)⟩, ⟨bs⟩⟩
      ·rw [if_neg c8] at H
       exact absurd H (by simp)
     ·rw [if_neg c6] at H
      exact absurd H (by simp)
    ·rw [if_neg c5] at H
     exact absurd H (by simp)
   ·rw [if_neg c4] at H
    have c4b0 := decide_eq_false c4; clear c4; obtain ⟨t398, A130, H⟩ := Option.bind_eq_some_iff.mp H
    have A13 := ak A130; clear A130; obtain rfl := Option.some.inj H; obtain ⟨Ao14, co14, eo14⟩ := Kd.R_slice HO_5.out; subst eo14
    go_wp2_with (((with_reducible refine gate_callee (f := 72) rfl ?_); refine goesL_ (some 23) rfl rfl Try.func72 (by kernel_rfl) rfl #[.slice Ao14 x5_1.length co14] rfl aq ?_; (with_reducible refine (impl_put.calls k1 _ _ x5_1 t398 _ ?side1 ?side2 A13.out).mono ?_); (case side1 => exact cq (Kd.R_reads' HO_5.out).2.2); (case side2 => exact (Kd.R_reads' HO_5.out).2.1); rintro e w15 ⟨v399, rfl, ho0, hb⟩; refine ⟨_, rfl, ?_⟩; have n0_ := ak (Kd.R_elder' (rq HO_5) (Kd.R_base ho0) hb); have n1_ := ak (Kd.R_lower (Kd.R_new' ho0 (Kd.R_lt (rq HO_5))) (below_size bq)); have n2_ := ak (below_step bq hb); clear HO_5; clear HB; have HO_5 := n0_; have HO400 := n1_; have HB := n2_; clear n0_ n1_ n2_; (try clear hb); (try clear ho0)))
    go_ret; exact ⟨_, eq_, by exact Kd.R_mono HO400.out (fun _ hk => trivial), bq⟩

/-! ### impl_MirrorBody: function 43 -/
def impl_MirrorBody.f (k : Nat) (l0 : List (S49)) : Option ((List (S49)) × Bool) := (impl_IsBody.f k l0).bind fun t401 => (if t401 = true then ((impl_cellsBy_MirrorBody_1.f k l0).bind fun t402 => (some (t402, true))) else (some (([] : List (S49)), false)))
theorem impl_MirrorBody.mono : ∀ a0 k, LeO (impl_MirrorBody.f k a0) (impl_MirrorBody.f (k + 1) a0) := by
 intro a0 k
 unfold impl_MirrorBody.f
 repeat' first
   | (with_reducible exact impl_IsBody.mono _ _)
   | (with_reducible exact impl_cellsBy_MirrorBody_1.mono _ _)
   | (with_reducible exact LeO.refl _)
   | (with_reducible exact LeO.none _)
   | (with_reducible refine LeO.ite ?_ ?_)
   | (with_reducible refine LeO.bind ?_ (fun _ => ?_))
set_option maxHeartbeats 8000000 in
set_option maxRecDepth 100000 in
theorem impl_MirrorBody.calls (k : Nat) (A0 : Option Addr) (c0 : Nat) (l0 : List (S49)) (r1 : List (S49)) (r2 : Bool) (w : World) (hr0 : Kd.C k49 w A0 l0.length l0) (hc0 : l0.length ≤ c0) (h : impl_MirrorBody.f k l0 = some (r1, r2)) :
  Calls Try.prog 43 #[.slice A0 l0.length c0] w fun e w' => ∃ v0_ : Value, e = .returned (.tuple #[v0_, .bool r2]) ∧ Kd.R k49 49 w' w.heap.size (fun _ => True) v0_ r1 ∧ Below w.heap.size w w' := by
 have HR0 := ak hr0; have HC0 := ak hc0; clear hr0 hc0; have HB := ak (Below.refl w.heap.size w); have H : ((impl_IsBody.f k l0).bind fun t401 => (if t401 = true then ((impl_cellsBy_MirrorBody_1.f k l0).bind fun t402 => (some (t402, true))) else (some (([] : List (S49)), false)))) = some (r1, r2) := h; clear h; obtain ⟨t401, A20, H⟩ := Option.bind_eq_some_iff.mp H
 have A2 := ak A20; clear A20
 by_cases c3 : t401 = true
 ·subst c3
  rw [if_pos rfl] at H; obtain ⟨t402, A40, H⟩ := Option.bind_eq_some_iff.mp H
  have A4 := ak A40; clear A40; simp only [Option.some.injEq, Prod.mk.injEq] at H; obtain ⟨rfl, rfl⟩ := H
  go_enter Try.func43, Try.ntmps43
  go_wp2_with (first | ((with_reducible refine gate_callee (f := 34) rfl ?_); refine goesL_ (some 5) rfl rfl Try.func34 (by kernel_rfl) rfl #[.slice A0 l0.length c0] rfl aq ?_; (with_reducible refine (impl_IsBody.calls k _ _ l0 true _ ?side1 ?side2 A2.out).mono ?_); (case side1 => exact cq HR0.out); (case side2 => exact HC0.out); rintro e w5 ⟨rfl, hb⟩; refine ⟨_, rfl, ?_⟩; have n0_ := ak (below_step bq hb); clear HB; have HB := n0_; clear n0_; (try clear hb)) | ((with_reducible refine gate_callee (f := 102) rfl ?_); refine goesL_ (some 8) rfl rfl Try.func102 (by kernel_rfl) rfl #[.slice A0 l0.length c0, .func (.func 103) #[] #[]] rfl aq ?_; (with_reducible refine (impl_cellsBy_MirrorBody_1.calls k _ _ l0 t402 _ ?side1 ?side2 A4.out).mono ?_); (case side1 => exact cq (Kd.C_below HR0.out HB.out)); (case side2 => exact HC0.out); rintro e w6 ⟨v403, rfl, ho0, hb⟩; refine ⟨_, rfl, ?_⟩; have n0_ := ak (Kd.R_lower ho0 (below_size bq)); have n1_ := ak (below_step bq hb); clear HB; have HO404 := n0_; have HB := n1_; clear n0_ n1_; (try clear hb); (try clear ho0)))
  go_ret2
  exact ⟨_, eq_, rq HO404, bq⟩
 ·replace c3 := Bool.eq_false_iff.mpr c3
  subst c3; rw [if_neg (show ¬ (false = true) by decide)] at H; simp only [Option.some.injEq, Prod.mk.injEq] at H; obtain ⟨rfl, rfl⟩ := H
  go_enter Try.func43, Try.ntmps43
  go_wp2_with (((with_reducible refine gate_callee (f := 34) rfl ?_); refine goesL_ (some 5) rfl rfl Try.func34 (by kernel_rfl) rfl #[.slice A0 l0.length c0] rfl aq ?_; (with_reducible refine (impl_IsBody.calls k _ _ l0 false _ ?side1 ?side2 A2.out).mono ?_); (case side1 => exact cq HR0.out); (case side2 => exact HC0.out); rintro e w7 ⟨rfl, hb⟩; refine ⟨_, rfl, ?_⟩; have n0_ := ak (below_step bq hb); clear HB; have HB := n0_; clear n0_; (try clear hb)))
  go_ret2
  exact ⟨_, eq_, by first | exact Kd.R_nil _ _ _ _ _ | exact Kd.N_nil _ _ _ _ _ | exact Kd.V_nil _ _ _ _ _ | exact Kd.Q_nil _ _ _ _ _ | exact Kd.S_nil _ _ _ _ _, bq⟩

end Go.Proofs.Ytckhmeadflafaaa.XFb
