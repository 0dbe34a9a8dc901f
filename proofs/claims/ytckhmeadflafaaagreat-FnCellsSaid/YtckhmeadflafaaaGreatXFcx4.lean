/- Functions of the program as plain Lean functions, each with the proof that the machine's call does what it says: written by a program of this session out of the translation. -/
import Derived.Test.YtckhmeadflafaaaGreatXFcx0
import Derived.Test.YtckhmeadflafaaaGreatXFcx2
import Derived.Test.YtckhmeadflafaaaGreatXFcx3
import Derived.Test.YtckhmeadflafaaaGreatXFcx1
namespace Go.Proofs.YtckhmeadflafaaaGreat.XFc
open Go.RowKit Go.Proofs.YtckhmeadflafaaaGreatW.PrintWords Go.Proofs.YtckhmeadflafaaaGreatW.PrintLast Go.Proofs.YtckhmeadflafaaaGreatW.PrintMore
attribute [local go_sem] max2_int min2_int max_two min_two max_three min_three max_four min_four   -- for this text's walks alone
set_option linter.unusedVariables false
set_option linter.unusedSimpArgs false
set_option maxHeartbeats 8000000
set_option maxRecDepth 100000
/-! ### impl_put: function 50 -/
def impl_put.l0 : Nat → List (S37) → List (S37) → Int → Int → Int → Int → Option ((List (S37)))
 | 0, _, _, _, _, _, _ => none
 | k + 1, x4, x13, x14, x15, x297000, x297001 => if x15 < x14 then (if 0 ≤ x15 then (if x15 < (x13.length : Int) then (if x4.length < 8796093022208 then (impl_put.l0 k (x4 ++ [(⟨wrap64 (((rd_T37 x13 x15).f0) - x297000), wrap64 (((rd_T37 x13 x15).f1) - x297001)⟩ : S37)]) x13 x14 (wrap64 (x15 + 1)) x297000 x297001) else (none)) else (none)) else (none)) else ((slices_SortFunc_compareCells.f x4).bind fun t302 => (some t302))
def impl_put.f (k : Nat) (l0 : List (S37)) : Option ((List (S37))) := if (l0.length : Int) = 0 then (some ([] : List (S37))) else ((impl_leastOf.f k l0).bind fun bt291 => (impl_put.l0 k (([] : List (S37))) l0 (l0.length : Int) 0 bt291.1 bt291.2))
theorem impl_put.calls (k : Nat) (A0 : Option Addr) (c0 : Nat) (l0 : List (S37)) (r : List (S37)) (w : World) (hr0 : Kd.C k37 w A0 l0.length l0) (hc0 : l0.length ≤ c0) (h : impl_put.f k l0 = some r) :
  Calls Tryz.prog 50 #[.slice A0 l0.length c0] w fun e w' => ∃ v0_ : Value, e = .returned (v0_) ∧ Kd.R k37 37 w' w.heap.size (fun _ => True) v0_ r ∧ Below w.heap.size w w' := by
 have hu37 := Tryz.underlying37; have HR0 := ak hr0; have HC0 := ak hc0; clear hr0 hc0; have HB := ak (Below.refl w.heap.size w); have H : (if (l0.length : Int) = 0 then (some ([] : List (S37))) else ((impl_leastOf.f k l0).bind fun bt291 => (impl_put.l0 k (([] : List (S37))) l0 (l0.length : Int) 0 bt291.1 bt291.2))) = some r := h; clear h
 by_cases c2 : (l0.length : Int) = 0
 ·rw [if_pos c2] at H
  have c2b0 : ((l0.length : Int) == 0) = true := beq_iff_eq.mpr c2; have c2b1 : ((l0.length : Int) != 0) = false := bne_eq_false_iff_eq.mpr c2; clear c2; obtain rfl := Option.some.inj H
  go_enter Tryz.func50, Tryz.ntmps50
  go_wp2; go_ret; exact ⟨_, eq_, by first | exact Kd.R_nil _ _ _ _ _ | exact Kd.N_nil _ _ _ _ _ | exact Kd.V_nil _ _ _ _ _ | exact Kd.Q_nil _ _ _ _ _ | exact Kd.S_nil _ _ _ _ _, bq⟩
 ·rw [if_neg c2] at H
  have c2b0 : ((l0.length : Int) == 0) = false := beq_eq_false_iff_ne.mpr c2; have c2b1 : ((l0.length : Int) != 0) = true := bne_iff_ne.mpr c2
  have c2b2 : ¬ (l0 = []) := fun h_ => c2 (by rw [h_]; rfl)
  obtain ⟨⟨t291, t292⟩, A30, H⟩ := Option.bind_eq_some_iff.mp H
  (try dsimp only at H)
  have A3 := ak A30; clear A30; obtain ⟨y293, hy293⟩ : ∃ y_ : List (S37), y_ = (([] : List (S37))) := ⟨_, rfl⟩
  replace H : (impl_put.l0 k y293 l0 (l0.length : Int) 0 t291 t292) = some r := by first | (rw [hy293]; with_reducible exact H) | (have H2_ := (Option.bind_some _ _).symm.trans H; rw [hy293]; with_reducible exact H2_) | (have H2_ := (Option.bind_some _ _).symm.trans H; with_reducible exact H2_) | with_reducible exact H | (rw [hy293]; exact H) | exact H
  have Ny293 := ak hy293; clear hy293; have H' := ak H; clear H
  go_enter Tryz.func50, Tryz.ntmps50
  go_wp2_with (first | ((with_reducible refine gate_callee (f := 28) rfl ?_); refine goesL_ (some 11) rfl rfl Tryz.func28 (by kernel_rfl) rfl #[.slice A0 l0.length c0] rfl aq ?_; (with_reducible refine (impl_leastOf.calls k _ _ l0 t291 t292 _ ?side1 ?side2 A3.out).mono ?_); (case side1 => exact cq HR0.out); (case side2 => exact HC0.out); rintro e w4 ⟨rfl, hb⟩; refine ⟨_, rfl, ?_⟩; have n0_ := ak (below_step bq hb); clear HB; have HB := n0_; clear n0_; (try clear hb)) | ((with_reducible refine gate_dst (N := 12) rfl ?_); refine Kd.R_lit k37 _ 37 ?hg (N := 12) ?hd (xs := ([] : List (S37))) (inner := []) (ok := fun _ => True) (okp := fun _ => True) ?hr ?hp (fun _ hk => hk) trivial (Below.refl _ _) (Nat.le_refl _) (by simp) ?_; (case hd => rfl); (case hg => rfl); (case hr => (go_simp; done)); (case hp => exact (Reps.none _ _)); intro v294 w5 ho6 hb hg_ hnew_; clear hg_ hnew_; (rw [← Ny293.out] at ho6); have n0_ := ak (Kd.R_lower ho6 (below_size bq)); have n1_ := ak (below_step bq hb); clear HB; have HO295 := n0_; have HB := n1_; clear n0_ n1_; clear hb ho6) | ((with_reducible refine gate_dst (N := 3) rfl ?_); refine box_event ?hg (N := 3) ?hd (cs := #[.int .i64 0, .int .i64 0]) (t := 37) ?hr ?_; (case hd => rfl); (case hg => rfl); (case hr => (go_simp; done)); intro gb296 hg w7 hbox hb; have n0_ := ak (Kd.R_below (Kd.R_elderB (rq HO295) gb296 (Nat.le_of_eq hg.symm)) hb); have n1_ := ak (below_step bq hb); have n2_ := ak (hbox); have n3_ := ak ((by rw [hg]; exact (below_size bq) : w.heap.size ≤ gb296)); have n4_ := ak ((by rw [hg]; exact (below_size bq) : w.heap.size ≤ gb296)); clear HO295; clear HB; have HO295 := n0_; have HB := n1_; have BK296 := n2_; have GW296 := n3_; have GE296 := n4_; clear n0_ n1_ n2_ n3_ n4_; clear hb hbox hg; have hcz8_0 : w7.cell? ⟨gb296, 0, none⟩ = some (.int .i64 0) := (blk_cell BK296.out 0).trans rfl; have hcz8_1 : w7.cell? ⟨gb296, 1, none⟩ = some (.int .i64 0) := (blk_cell BK296.out 1).trans rfl; have hfz8_0 := blk_frozen BK296.out 0; have hfz8_1 := blk_frozen BK296.out 1))
  go_loopg [4, 15] k (fun kq v4 v15 w' => ∃ (x4_1 : List (S37)) (x15_1 : Int), v15 = .int .i64 x15_1 ∧ Aside0 (impl_put.l0 kq x4_1 l0 (l0.length : Int) x15_1 t291 t292 = some r) ∧ Aside0 (kq ≤ k) ∧ Aside0 (Kd.R k37 37 w' w.heap.size (fun k_ => k_ ≠ gb296) v4 x4_1) ∧ Aside0 (w'.heap[gb296]? = some (.cells #[.int .i64 t291, .int .i64 t292] 37 (0, 0))) ∧ Aside0 (Below w.heap.size w w'))
  case atStart => exact ⟨(y293), (0), sq, H', ⟨Nat.le_refl _⟩, ⟨by exact Kd.R_mono (Kd.R_far (p := ⟨gb296, 1, none⟩) (Kd.R_far (p := ⟨gb296, 0, none⟩) (Kd.R_mono HO295.out (fun k_ hk => (⟨hk, hk.2⟩ : _ ∧ k_ ≠ gb296))) (fun _ hk => hk.2) (.int .i64 t291)) (fun _ hk => hk.2) (.int .i64 t292)) (fun _ hk => hk.1.2)⟩, ⟨by refine blk_put (cs := #[.int .i64 t291, .int .i64 0]) ?_ 1 _ rfl; refine blk_put (cs := #[.int .i64 0, .int .i64 0]) ?_ 0 _ rfl; exact BK296.out⟩, ⟨bs⟩⟩
  case round =>
   clear H'; (try clear c2); (try clear c2b0); (try clear c2b1); (try clear c2b2); (try clear hcz8_0); (try clear hcz8_1); (try clear hfz8_0); (try clear hfz8_1); obtain ⟨x4_1, x15_1, rfl, HA, HK1, HO_4, BK296, HB⟩ := hrel
   cases gk with
   | zero => exact absurd HA.out (by simp [impl_put.l0])
   | succ k1 =>
    have H := HA.out; clear HA; simp only [impl_put.l0] at H
    by_cases c9 : x15_1 < (l0.length : Int)
    ·rw [if_pos c9] at H
     have c9b0 := decide_eq_true c9; clear c9
     revert H; refine ig_ fun c10 H => ?_
     have c10b0 := decide_eq_true c10; clear c10
     revert H; refine ig_ fun c11 H => ?_
     have c11b0 := decide_eq_true c11; clear c11
     revert H; refine ig_ fun c12 H => ?_
     have LMc12 := ak c12; clear c12; obtain ⟨y299, hy299⟩ : ∃ y_ : List (S37), y_ = (x4_1 ++ [(⟨wrap64 (((rd_T37 l0 x15_1).f0) - t291), wrap64 (((rd_T37 l0 x15_1).f1) - t292)⟩ : S37)]) := ⟨_, rfl⟩
     replace H : (impl_put.l0 k1 y299 l0 (l0.length : Int) (wrap64 (x15_1 + 1)) t291 t292) = some r := by first | (rw [hy299]; with_reducible exact H) | (have H2_ := (Option.bind_some _ _).symm.trans H; rw [hy299]; with_reducible exact H2_) | (have H2_ := (Option.bind_some _ _).symm.trans H; with_reducible exact H2_) | with_reducible exact H | (rw [hy299]; exact H) | exact H
     have Ny299 := ak hy299; clear hy299; have H' := ak H; clear H; have p297 : 0 ≤ (x15_1 : Int) := dq; have q297 : x15_1 < (l0.length : Int) := dq; obtain ⟨ad297, e297, hx297_0, hx297_1⟩ := at_T37 HR0.out x15_1 p297 q297; cases e297; replace hx297_0 := hb_ HB hx297_0; replace hx297_1 := hb_ HB hx297_1; replace p297 := eq_true p297; replace q297 := eq_true q297
     go_wp2_with (first | ((with_reducible refine gate_dst (N := 6) rfl ?_); refine box_event ?hg (N := 6) ?hd (cs := #[.int .i64 0, .int .i64 0]) (t := 37) ?hr ?_; (case hd => rfl); (case hg => rfl); (case hr => (go_simp; done)); intro gb298 hg w13 hbox hb; have n0_ := ak (Kd.R_below (Kd.R_elderB (rq HO_4) gb298 (Nat.le_of_eq hg.symm)) hb); have n1_ := ak (blk_below (g := gb296) (o := .cells #[.int .i64 t291, .int .i64 t292] 37 (0, 0)) (uq BK296) hb); have n2_ := ak (below_step bs hb); have n3_ := ak (hbox); have n4_ := ak ((by rw [hg]; exact (below_size bs) : w.heap.size ≤ gb298)); have n5_ := ak ((by rw [hg]; exact (below_size bs) : w.heap.size ≤ gb298)); have n6_ := ak ((by rw [hg]; exact Nat.ne_of_lt (blk_lt (g := gb296) (o := .cells #[.int .i64 t291, .int .i64 t292] 37 (0, 0)) (uq BK296)) : gb296 ≠ gb298)); have n7_ := ak ((by rw [hg]; exact Nat.ne_of_gt (blk_lt (g := gb296) (o := .cells #[.int .i64 t291, .int .i64 t292] 37 (0, 0)) (uq BK296)) : gb298 ≠ gb296)); clear HO_4; clear BK296; clear HB; have HO_4 := n0_; have BK296 := n1_; have HB := n2_; have BK298 := n3_; have GW298 := n4_; have GE298 := n5_; have NB296_298 := n6_; have NB298_296 := n7_; clear n0_ n1_ n2_ n3_ n4_ n5_ n6_ n7_; clear hb hbox hg; have hnb14 := NB298_296.out; have hnc14 := NB296_298.out; have hcz15_0 : w13.cell? ⟨gb298, 0, none⟩ = some (.int .i64 0) := (blk_cell BK298.out 0).trans rfl; have hcz15_1 : w13.cell? ⟨gb298, 1, none⟩ = some (.int .i64 0) := (blk_cell BK298.out 1).trans rfl; have hfz15_0 := blk_frozen BK298.out 0; have hfz15_1 := blk_frozen BK298.out 1; have hcz16_0 : w13.cell? ⟨gb296, 0, none⟩ = some (.int .i64 t291) := (blk_cell BK296.out 0).trans rfl; have hcz16_1 : w13.cell? ⟨gb296, 1, none⟩ = some (.int .i64 t292) := (blk_cell BK296.out 1).trans rfl; have hfz16_0 := blk_frozen BK296.out 0; have hfz16_1 := blk_frozen BK296.out 1) | ((with_reducible refine gate_builtin (b := .append) (xs := #[.tmp 19, .tmp 31]) rfl ?_); at_builtin; refine Kd.R_append k37 (w0 := w) w.heap.size rfl (.tmp 19) (.tmp 31) 24 37 (.agg #[(.int .i64 0), (.int .i64 0)]) 16 rfl Tryz.underlying24 info37 rfl (by decide) (by omega) u4 x4_1 (⟨wrap64 (((rd_T37 l0 x15_1).f0) - t291), wrap64 (((rd_T37 l0 x15_1).f1) - t292)⟩ : S37) [.int .i64 (wrap64 (((rd_T37 l0 x15_1).f0) - t291)), .int .i64 (wrap64 (((rd_T37 l0 x15_1).f1) - t292))] (fun k_ => k_ ≠ gb296 ∧ k_ ≠ gb298) (fun _ => False) rfl (by (go_simp; done)) ?aP (fun _ hk => hk.elim) ?aF ?aO ?aB ?aS ?aL ?_; (case aP => exact k37_mkM _ _ _ (⟨wrap64 (((rd_T37 l0 x15_1).f0) - t291), wrap64 (((rd_T37 l0 x15_1).f1) - t292)⟩ : S37)); (case aB => exact bs); (case aF => exact (fun k_ hk => ⟨Kd.freshB (g := gb296) (o := .cells #[.int .i64 t291, .int .i64 t292] 37 (0, 0)) (by refine blk_far ?_ NB296_298.out _; refine blk_far ?_ NB296_298.out _; exact BK296.out) k_ hk, Kd.freshB (g := gb298) (o := .cells #[.int .i64 ((rd_T37 l0 x15_1).f0), .int .i64 ((rd_T37 l0 x15_1).f1)] 37 (0, 0)) (by refine blk_put (cs := #[.int .i64 ((rd_T37 l0 x15_1).f0), .int .i64 0]) ?_ 1 _ rfl; refine blk_put (cs := #[.int .i64 0, .int .i64 0]) ?_ 0 _ rfl; exact BK298.out) k_ hk⟩)); (case aO => exact (by exact Kd.R_mono (Kd.R_far (p := ⟨gb298, 1, none⟩) (Kd.R_far (p := ⟨gb298, 0, none⟩) (Kd.R_mono HO_4.out (fun k_ hk => (⟨hk, hk.2⟩ : _ ∧ k_ ≠ gb298))) (fun _ hk => hk.2) (.int .i64 ((rd_T37 l0 x15_1).f0))) (fun _ hk => hk.2) (.int .i64 ((rd_T37 l0 x15_1).f1))) (fun _ hk => ⟨hk.1.1, hk.1.2⟩))); (case aS => exact (below_size bs)); (case aL => have := LMc12.out; omega); intro v300 w17 ho hb hg hat; rw [← Ny299.out] at ho; have n0_ := ak (blk_grown (g := gb296) (o := .cells #[.int .i64 t291, .int .i64 t292] 37 (0, 0)) (by refine blk_far ?_ NB296_298.out _; refine blk_far ?_ NB296_298.out _; exact BK296.out) hg (Kd.R_away HO_4.out (fun _ hk => hk.1))); have n1_ := ak (blk_grown (g := gb298) (o := .cells #[.int .i64 ((rd_T37 l0 x15_1).f0), .int .i64 ((rd_T37 l0 x15_1).f1)] 37 (0, 0)) (by refine blk_put (cs := #[.int .i64 ((rd_T37 l0 x15_1).f0), .int .i64 0]) ?_ 1 _ rfl; refine blk_put (cs := #[.int .i64 0, .int .i64 0]) ?_ 0 _ rfl; exact BK298.out) hg (Kd.R_away HO_4.out (fun _ hk => hk.2))); have n2_ := ak (hb); have n3_ := ak (ho); clear BK296; clear BK298; clear HB; clear HO_4; have BK296 := n0_; have BK298 := n1_; have HB := n2_; have HO301 := n3_; clear n0_ n1_ n2_ n3_; clear ho hb hg hat))
     go_roundg k1
     case measure => have := HK1.out; omega
     case rel => exact ⟨(y299), (wrap64 (x15_1 + 1)), sq, H', ⟨by have := HK1.out; omega⟩, ⟨by exact Kd.R_mono HO301.out (fun _ hk => hk.1)⟩, ⟨by exact BK296.out⟩, ⟨bs⟩⟩
    ·rw [if_neg c9] at H
     have c9b0 := decide_eq_false c9; clear c9; obtain ⟨t302, A180, H⟩ := Option.bind_eq_some_iff.mp H
     have A18 := ak A180; clear A180; obtain rfl := Option.some.inj H; obtain ⟨Ao19, co19, eo19⟩ := Kd.R_slice HO_4.out; subst eo19
     go_wp2_with (((with_reducible refine gate_callee (f := 64) rfl ?_); refine goesL_ (some 35) rfl rfl Tryz.func64 (by kernel_rfl) rfl #[.slice Ao19 x4_1.length co19, .func (.func 27) #[] #[]] rfl aq ?_; (with_reducible refine (slices_SortFunc_compareCells.calls (fun k_ => some k_ = (.slice Ao19 x4_1.length co19 : Value).ownBlock) (.slice Ao19 x4_1.length co19) x4_1 t302 w _ ?side1 ?side2 A18.out).mono ?_); (case side1 => repeat ((with_reducible exact HB.out))); (case side2 => exact Kd.R_tight rfl HO_4.out); rintro e w20 ⟨rfl, hy0, hb, hkp⟩; refine ⟨_, rfl, ?_⟩; have n0_ := ak (Kd.R_reok rfl hy0 (fun k_ e_ => HO_4.out.1 k_ e_)); have n1_ := ak (blk_kept (uq BK296) hkp (fun hs_ => (fun e_ => (Kd.R_away HO_4.out (fun _ hk => hk)) e_) hs_)); have n2_ := ak (hb); clear HO_4; clear BK296; clear HB; have HO_4 := n0_; have BK296 := n1_; have HB := n2_; clear n0_ n1_ n2_; (try clear hb); (try clear hkp); (try clear hy0)))
     go_ret; exact ⟨_, eq_, by exact Kd.R_mono HO_4.out (fun _ hk => trivial), bs⟩
/-! ### impl_without: function 23, by hand -/
def impl_without.f (k : Nat) (l0 : List (S37)) (a1 : Int) : Option (List (S37)) := if 0 ≤ a1 ∧ a1 < (l0.length : Int) ∧ l0.length < 8796093022208 then impl_put.f k (l0.eraseIdx a1.toNat) else none
theorem impl_without.calls (k : Nat) (A0 : Option Addr) (c0 : Nat) (l0 : List (S37)) (a1 : Int) (r : List (S37)) (w : World) (hr0 : Kd.C k37 w A0 l0.length l0) (hc0 : l0.length ≤ c0) (h : impl_without.f k l0 a1 = some r) :
  Calls Tryz.prog 23 #[.slice A0 l0.length c0, .int .i64 a1] w fun e w' => ∃ v0_ : Value, e = .returned (v0_) ∧ Kd.R k37 37 w' w.heap.size (fun _ => True) v0_ r ∧ Below w.heap.size w w' := by
 unfold impl_without.f at h
 by_cases hc : 0 ≤ a1 ∧ a1 < (l0.length : Int) ∧ l0.length < 8796093022208
 case neg => rw [if_neg hc] at h; cases h
 rw [if_pos hc] at h; obtain ⟨i, rfl⟩ := Int.eq_ofNat_of_zero_le hc.1
 have hi : i < l0.length := by omega
 rw [Int.toNat_natCast] at h
 have hcl : slices_Clone.f l0 = some l0 := by unfold slices_Clone.f; rw [if_pos hc.2.2]
 have h1 := slices_Clone.calls A0 c0 l0 l0 w hr0 hc0 hcl
 have hw : (i : Int) + 1 ≤ 9223372036854775807 := by omega
 have hi0 : 0 ≤ (i : Int) := by omega
 have H := ak h; have H1 := ak h1; clear h h1 hcl hc hr0
 go_enter Tryz.func23, Tryz.ntmps23
 go_wp2_with (first
  | (go_at_call 53; refine H1.out.mono ?_; rintro e w1 ⟨v, rfl, ho, hb⟩; obtain ⟨g, cap, rfl⟩ : ∃ g cap, v = .slice (some ⟨g, 0, none⟩) l0.length cap := (by obtain ⟨hok, inner, ⟨_, ho2⟩, _⟩ := ho; rcases ho2 with ⟨_, hn⟩ | ⟨g, cap, cur, e, _⟩; (exact absurd hn (by omega)); exact ⟨g, cap, e⟩); have HO := ak ho; have HB := ak hb; clear ho hb)
  | (go_at_call 52; refine (slices_Delete.calls g cap i l0 _ w w1 HB.out HO.out hi).mono ?_; rintro e w2 ⟨rfl, ho, hb⟩; have HO2 := ak ho; have HB2 := ak hb; clear ho hb)
  | (go_at_call 50; rw [← show (l0.eraseIdx i).length = l0.length - 1 from List.length_eraseIdx_of_lt hi]; refine (impl_put.calls k _ _ (l0.eraseIdx i) r w2 ?_ ?_ H.out).mono ?_; (exact (show _ from by have z := HO2.out; rw [← show (l0.eraseIdx i).length = l0.length - 1 from List.length_eraseIdx_of_lt hi] at z; exact (Kd.R_reads' z).2.2)); (exact (show _ from by have z := HO2.out; rw [← show (l0.eraseIdx i).length = l0.length - 1 from List.length_eraseIdx_of_lt hi] at z; exact (Kd.R_reads' z).2.1)); rintro e w3 ⟨v3, rfl, ho, hb⟩; have HO3 := ak ho; have HB3 := ak hb; clear ho hb))
 go_ret; exact ⟨_, rfl, Kd.R_lower HO3.out HB2.out.size, below_then HB2.out HB2.out.size HB3.out⟩
/-! ### impl_LooseCells: function 6 -/
def impl_LooseCells.l0 : Nat → List (S37) → List Int → Int → Int → Option (List Int × Bool)
 | 0, _, _, _, _ => none
 | k + 1, x0, x4, x11, x12 => if x12 < x11 then ((impl_without.f k x0 x12).bind fun t307 => ((impl_IsBody.f k t307).bind fun t310 => (if t310 = true then (if x4.length < 17592186044416 then (impl_LooseCells.l0 k x0 (x4 ++ [x12]) x11 (wrap64 (x12 + 1))) else (none)) else (impl_LooseCells.l0 k x0 x4 x11 (wrap64 (x12 + 1)))))) else (some (x4, true))
def impl_LooseCells.f (k : Nat) (l0 : List (S37)) : Option (List Int × Bool) := (impl_IsBody.f k l0).bind fun t303 => (if t303 = true then (impl_LooseCells.l0 k l0 (([] : List Int)) (l0.length : Int) 0) else (some (([] : List Int), false)))
theorem impl_LooseCells.calls (k : Nat) (A0 : Option Addr) (c0 : Nat) (l0 : List (S37)) (r1 : List Int) (r2 : Bool) (w : World) (hr0 : Kd.C k37 w A0 l0.length l0) (hc0 : l0.length ≤ c0) (h : impl_LooseCells.f k l0 = some (r1, r2)) :
  Calls Tryz.prog 6 #[.slice A0 l0.length c0] w fun e w' => ∃ v0_ : Value, e = .returned (.tuple #[v0_, .bool r2]) ∧ Kd.R (Kd.int .i64) 3 w' w.heap.size (fun _ => True) v0_ r1 ∧ Below w.heap.size w w' := by
 have HR0 := ak hr0; have HC0 := ak hc0; clear hr0 hc0; have HB := ak (Below.refl w.heap.size w); have H : ((impl_IsBody.f k l0).bind fun t303 => (if t303 = true then (impl_LooseCells.l0 k l0 (([] : List Int)) (l0.length : Int) 0) else (some (([] : List Int), false)))) = some (r1, r2) := h; clear h; obtain ⟨t303, A20, H⟩ := Option.bind_eq_some_iff.mp H
 have A2 := ak A20; clear A20
 by_cases c3 : t303 = true
 ·subst c3
  rw [if_pos rfl] at H; obtain ⟨y304, hy304⟩ : ∃ y_ : List Int, y_ = (([] : List Int)) := ⟨_, rfl⟩
  replace H : (impl_LooseCells.l0 k l0 y304 (l0.length : Int) 0) = some (r1, r2) := by first | (rw [hy304]; with_reducible exact H) | (have H2_ := (Option.bind_some _ _).symm.trans H; rw [hy304]; with_reducible exact H2_) | (have H2_ := (Option.bind_some _ _).symm.trans H; with_reducible exact H2_) | with_reducible exact H | (rw [hy304]; exact H) | exact H
  have Ny304 := ak hy304; clear hy304; have H' := ak H; clear H
  go_enter Tryz.func6, Tryz.ntmps6
  go_wp2_with (first | ((with_reducible refine gate_callee (f := 8) rfl ?_); refine goesL_ (some 7) rfl rfl Tryz.func8 (by kernel_rfl) rfl #[.slice A0 l0.length c0] rfl aq ?_; (with_reducible refine (impl_IsBody.calls k _ _ l0 true _ ?side1 ?side2 A2.out).mono ?_); (case side1 => exact cq HR0.out); (case side2 => exact HC0.out); rintro e w4 ⟨rfl, hb⟩; refine ⟨_, rfl, ?_⟩; have n0_ := ak (below_step bq hb); clear HB; have HB := n0_; clear n0_; (try clear hb)) | ((with_reducible refine gate_dst (N := 9) rfl ?_); refine Kd.R_lit (Kd.int .i64) _ 3 ?hg (N := 9) ?hd (xs := ([] : List Int)) (inner := []) (ok := fun _ => True) (okp := fun _ => True) ?hr ?hp (fun _ hk => hk) trivial (Below.refl _ _) (Nat.le_refl _) (by simp) ?_; (case hd => rfl); (case hg => rfl); (case hr => (go_simp; done)); (case hp => exact (Reps.none _ _)); intro v305 w5 ho6 hb hg_ hnew_; clear hg_ hnew_; (rw [← Ny304.out] at ho6); have n0_ := ak (Kd.R_lower ho6 (below_size bq)); have n1_ := ak (below_step bq hb); clear HB; have HO306 := n0_; have HB := n1_; clear n0_ n1_; clear hb ho6))
  go_loopg [4, 12] k (fun kq v4 v12 w' => ∃ (x4_1 : List Int) (x12_1 : Int), v12 = .int .i64 x12_1 ∧ Aside0 (impl_LooseCells.l0 kq l0 x4_1 (l0.length : Int) x12_1 = some (r1, r2)) ∧ Aside0 (kq ≤ k) ∧ Aside0 (Kd.R (Kd.int .i64) 3 w' w.heap.size (fun _ => True) v4 x4_1) ∧ Aside0 (Below w.heap.size w w'))
  case atStart => exact ⟨(y304), (0), sq, H', ⟨Nat.le_refl _⟩, ⟨rq HO306⟩, ⟨bq⟩⟩
  case round =>
   clear H'; obtain ⟨x4_1, x12_1, rfl, HA, HK1, HO_4, HB⟩ := hrel
   cases gk with
   | zero => exact absurd HA.out (by simp [impl_LooseCells.l0])
   | succ k1 =>
    have H := HA.out; clear HA; simp only [impl_LooseCells.l0] at H
    by_cases c7 : x12_1 < (l0.length : Int)
    ·rw [if_pos c7] at H
     have c7b0 := decide_eq_true c7; clear c7; obtain ⟨t307, A80, H⟩ := Option.bind_eq_some_iff.mp H
     have A8 := ak A80; clear A80; obtain ⟨t310, A90, H⟩ := Option.bind_eq_some_iff.mp H
     have A9 := ak A90; clear A90
     by_cases c10 : t310 = true
     ·subst c10
      rw [if_pos rfl] at H
      revert H; refine ig_ fun c11 H => ?_
      have LMc11 := ak c11; clear c11; obtain ⟨y311, hy311⟩ : ∃ y_ : List Int, y_ = (x4_1 ++ [x12_1]) := ⟨_, rfl⟩
      replace H : (impl_LooseCells.l0 k1 l0 y311 (l0.length : Int) (wrap64 (x12_1 + 1))) = some (r1, r2) := by first | (rw [hy311]; with_reducible exact H) | (have H2_ := (Option.bind_some _ _).symm.trans H; rw [hy311]; with_reducible exact H2_) | (have H2_ := (Option.bind_some _ _).symm.trans H; with_reducible exact H2_) | with_reducible exact H | (rw [hy311]; exact H) | exact H
      have Ny311 := ak hy311; clear hy311; have H' := ak H; clear H
      go_wp2_with (first | ((with_reducible refine gate_callee (f := 23) rfl ?_); refine goesL_ (some 17) rfl rfl Tryz.func23 (by kernel_rfl) rfl #[.slice A0 l0.length c0, .int .i64 x12_1] rfl aq ?_; (with_reducible refine (impl_without.calls k1 _ _ l0 x12_1 t307 _ ?side1 ?side2 A8.out).mono ?_); (case side1 => exact cq (Kd.C_below HR0.out HB.out)); (case side2 => exact HC0.out); rintro e w12 ⟨v308, rfl, ho0, hb⟩; refine ⟨_, rfl, ?_⟩; have n0_ := ak (Kd.R_below (rq HO_4) hb); have n1_ := ak (Kd.R_lower ho0 (below_size bq)); have n2_ := ak (below_step bq hb); clear HO_4; clear HB; have HO_4 := n0_; have HO309 := n1_; have HB := n2_; clear n0_ n1_ n2_; (try clear hb); (try clear ho0); obtain ⟨Ao13, co13, eo13⟩ := Kd.R_slice HO309.out; subst eo13) | ((with_reducible refine gate_callee (f := 8) rfl ?_); refine goesL_ (some 18) rfl rfl Tryz.func8 (by kernel_rfl) rfl #[.slice Ao13 t307.length co13] rfl aq ?_; (with_reducible refine (impl_IsBody.calls k1 _ _ t307 true _ ?side1 ?side2 A9.out).mono ?_); (case side1 => exact cq (Kd.R_reads' HO309.out).2.2); (case side2 => exact (Kd.R_reads' HO309.out).2.1); rintro e w14 ⟨rfl, hb⟩; refine ⟨_, rfl, ?_⟩; have n0_ := ak (Kd.R_below (rq HO_4) hb); have n1_ := ak (Kd.R_below (rq HO309) hb); have n2_ := ak (below_step bq hb); clear HO_4; clear HO309; clear HB; have HO_4 := n0_; have HO309 := n1_; have HB := n2_; clear n0_ n1_ n2_; (try clear hb)) | ((with_reducible refine gate_builtin (b := .append) (xs := #[.tmp 19, .tmp 21]) rfl ?_); at_builtin; refine Kd.R_append (Kd.int .i64) (w0 := w) w.heap.size rfl (.tmp 19) (.tmp 21) 26 3 (.int .i64 0) 8 rfl Tryz.underlying26 info3 rfl (by decide) (by omega) u4 x4_1 x12_1 [.int .i64 x12_1] (fun _ => True) (fun _ => False) rfl rfl ?aP (fun _ hk => hk.elim) ?aF ?aO ?aB ?aS ?aL ?_; (case aP => exact rfl); (case aB => exact bq); (case aF => exact (fun _ _ => trivial)); (case aO => exact (rq HO_4)); (case aS => exact (below_size bq)); (case aL => have := LMc11.out; omega); intro v312 w15 ho hb hg hat; rw [← Ny311.out] at ho; have n0_ := ak (Kd.R_over' (rq HO309) (Kd.R_typed (rq HO_4)) (by decide) hg); have n1_ := ak (hb); have n2_ := ak (ho); clear HO309; clear HB; clear HO_4; have HO309 := n0_; have HB := n1_; have HO313 := n2_; clear n0_ n1_ n2_; clear ho hb hg hat))
      go_roundg k1
      case measure => have := HK1.out; omega
      case rel => exact ⟨(y311), (wrap64 (x12_1 + 1)), sq, H', ⟨by have := HK1.out; omega⟩, ⟨rq HO313⟩, ⟨bq⟩⟩
     ·replace c10 := Bool.eq_false_iff.mpr c10
      subst c10; rw [if_neg (show ¬ (false = true) by decide)] at H; have H' := ak H; clear H
      go_wp2_with (first | ((with_reducible refine gate_callee (f := 23) rfl ?_); refine goesL_ (some 17) rfl rfl Tryz.func23 (by kernel_rfl) rfl #[.slice A0 l0.length c0, .int .i64 x12_1] rfl aq ?_; (with_reducible refine (impl_without.calls k1 _ _ l0 x12_1 t307 _ ?side1 ?side2 A8.out).mono ?_); (case side1 => exact cq (Kd.C_below HR0.out HB.out)); (case side2 => exact HC0.out); rintro e w16 ⟨v308, rfl, ho0, hb⟩; refine ⟨_, rfl, ?_⟩; have n0_ := ak (Kd.R_below (rq HO_4) hb); have n1_ := ak (Kd.R_lower ho0 (below_size bq)); have n2_ := ak (below_step bq hb); clear HO_4; clear HB; have HO_4 := n0_; have HO309 := n1_; have HB := n2_; clear n0_ n1_ n2_; (try clear hb); (try clear ho0); obtain ⟨Ao17, co17, eo17⟩ := Kd.R_slice HO309.out; subst eo17) | ((with_reducible refine gate_callee (f := 8) rfl ?_); refine goesL_ (some 18) rfl rfl Tryz.func8 (by kernel_rfl) rfl #[.slice Ao17 t307.length co17] rfl aq ?_; (with_reducible refine (impl_IsBody.calls k1 _ _ t307 false _ ?side1 ?side2 A9.out).mono ?_); (case side1 => exact cq (Kd.R_reads' HO309.out).2.2); (case side2 => exact (Kd.R_reads' HO309.out).2.1); rintro e w18 ⟨rfl, hb⟩; refine ⟨_, rfl, ?_⟩; have n0_ := ak (Kd.R_below (rq HO_4) hb); have n1_ := ak (Kd.R_below (rq HO309) hb); have n2_ := ak (below_step bq hb); clear HO_4; clear HO309; clear HB; have HO_4 := n0_; have HO309 := n1_; have HB := n2_; clear n0_ n1_ n2_; (try clear hb)))
      go_roundg k1
      case measure => have := HK1.out; omega
      case rel => exact ⟨(x4_1), (wrap64 (x12_1 + 1)), sq, H', ⟨by have := HK1.out; omega⟩, ⟨rq HO_4⟩, ⟨bq⟩⟩
    ·rw [if_neg c7] at H
     have c7b0 := decide_eq_false c7; clear c7; simp only [Option.some.injEq, Prod.mk.injEq] at H; obtain ⟨rfl, rfl⟩ := H; go_wp2
     go_ret2
     exact ⟨_, eq_, rq HO_4, bq⟩
 ·replace c3 := Bool.eq_false_iff.mpr c3
  subst c3; rw [if_neg (show ¬ (false = true) by decide)] at H; simp only [Option.some.injEq, Prod.mk.injEq] at H; obtain ⟨rfl, rfl⟩ := H
  go_enter Tryz.func6, Tryz.ntmps6
  go_wp2_with (((with_reducible refine gate_callee (f := 8) rfl ?_); refine goesL_ (some 7) rfl rfl Tryz.func8 (by kernel_rfl) rfl #[.slice A0 l0.length c0] rfl aq ?_; (with_reducible refine (impl_IsBody.calls k _ _ l0 false _ ?side1 ?side2 A2.out).mono ?_); (case side1 => exact cq HR0.out); (case side2 => exact HC0.out); rintro e w19 ⟨rfl, hb⟩; refine ⟨_, rfl, ?_⟩; have n0_ := ak (below_step bq hb); clear HB; have HB := n0_; clear n0_; (try clear hb)))
  go_ret2
  exact ⟨_, eq_, by first | exact Kd.R_nil _ _ _ _ _ | exact Kd.N_nil _ _ _ _ _ | exact Kd.V_nil _ _ _ _ _ | exact Kd.Q_nil _ _ _ _ _ | exact Kd.S_nil _ _ _ _ _, bq⟩
/-! ### spec_l1In: function 48 -/
def spec_l1In.f (a0 : Int) (a1 : Int) (a2 : Int) : Option (Bool) := if a0 ≥ a1 then (some (decide (a0 ≤ a2))) else (some false)
theorem spec_l1In.calls (a0 : Int) (a1 : Int) (a2 : Int) (r : Bool) (w : World) (h : spec_l1In.f a0 a1 a2 = some r) :
  Calls Tryz.prog 48 #[.int .i64 a0, .int .i64 a1, .int .i64 a2] w fun e w' => e = .returned (.bool r) ∧ Drawn0 w w' := by
 have H : (if a0 ≥ a1 then (some (decide (a0 ≤ a2))) else (some false)) = some r := h; clear h
 by_cases c4 : a0 ≥ a1
 ·rw [if_pos c4] at H
  have c4b0 : decide (a1 ≤ a0) = true := decide_eq_true c4; clear c4; obtain rfl := Option.some.inj H
  go_enter Tryz.func48, Tryz.ntmps48
  go_wp2; go_ret; exact ⟨sq, by repeat (exact Drawn0.refl _)⟩
 ·rw [if_neg c4] at H
  have c4b0 : decide (a1 ≤ a0) = false := decide_eq_false c4; clear c4; obtain rfl := Option.some.inj H
  go_enter Tryz.func48, Tryz.ntmps48
  go_wp2; go_ret; exact ⟨sq, by repeat (exact Drawn0.refl _)⟩
/-! ### spec_l8Hangs: function 56 -/
mutual
def spec_l8Hangs.l0 : Nat → List (S37) → List Bool → List Int → Int → Option (Bool)
 | 0, _, _, _, _ => none
 | k + 1, x0, x3, x4, x5 => if x5 < (x4.length : Int) then (spec_l8Hangs.l1 k x0 x3 x4 x5 0) else (some ((x4.length : Int) == (x0.length : Int)))
def spec_l8Hangs.l1 : Nat → List (S37) → List Bool → List Int → Int → Int → Option (Bool)
 | 0, _, _, _, _, _ => none
 | k + 1, x0, x3, x4, x5, x6 => if x6 < (x0.length : Int) then (if 0 ≤ x6 then (if x6 < (x3.length : Int) then (if rdOf false x3 x6 = true then (spec_l8Hangs.l1 k x0 x3 x4 x5 (wrap64 (x6 + 1))) else (if 0 ≤ x5 then (if x5 < (x4.length : Int) then (if 0 ≤ (rd x4 x5) then (if (rd x4 x5) < (x0.length : Int) then ((spec_l8Near.f ((rd_T37 x0 x6).f0) ((rd_T37 x0 x6).f1) ((rd_T37 x0 (rd x4 x5)).f0) ((rd_T37 x0 (rd x4 x5)).f1)).bind fun t325 => (if t325 = true then (if x4.length < 17592186044416 then (spec_l8Hangs.l1 k x0 (x3.set (x6 : Int).toNat true) (x4 ++ [x6]) x5 (wrap64 (x6 + 1))) else (none)) else (spec_l8Hangs.l1 k x0 x3 x4 x5 (wrap64 (x6 + 1))))) else (none)) else (none)) else (none)) else (none))) else (none)) else (none)) else (spec_l8Hangs.l0 k x0 x3 x4 (wrap64 (x5 + 1)))
end
def spec_l8Hangs.f (k : Nat) (l0 : List (S37)) : Option (Bool) := if 0 ≤ (l0.length : Int) then (if ((l0.length : Int) : Int).toNat ≤ 281474976710656 then ((some (List.replicate ((l0.length : Int) : Int).toNat false : List Bool)).bind fun y314 => (if 0 < (y314.length : Int) then (spec_l8Hangs.l0 k l0 (y314.set (0 : Int).toNat true) (([0] : List Int)) 0) else (none))) else (none)) else (none)
def spec_l8Hangs.T10 : Bool × List (List Nat × List Nat) := (true, [([], []), ([], []), ([0, 1], [0, 1]), ([2], [2]), ([3], [3]), ([4], [4]), ([5], [5]), ([5], [5]), ([6, 7, 5], [5, 6, 7]), ([8, 5], [5, 8]), ([5], [5]), ([5], [5]), ([5], [5]), ([11, 12, 5], [5, 11, 12]), ([13, 5], [5, 13]), ([10, 14, 5], [5, 10, 14]), ([15, 5], [5, 15]), ([9, 16, 5, 5], [5, 9, 16]), ([5, 17], [5, 17])])
def spec_l8Hangs.B10 : List Nat := [0, 0, 3, 7, 15, 31, 63, 63, 255, 511, 63, 63, 63, 6207, 14399, 31807, 64575, 131071, 262143]
theorem spec_l8Hangs.tab10 : rtab .any (opsOf Tryz.f56 10) = spec_l8Hangs.T10 := by kernel_rfl
theorem spec_l8Hangs.bits10 : waitsOk spec_l8Hangs.T10.2 spec_l8Hangs.B10 = true := by kernel_rfl
theorem spec_l8Hangs.calls (k : Nat) (A0 : Option Addr) (c0 : Nat) (l0 : List (S37)) (r : Bool) (w : World) (hr0 : Kd.C k37 w A0 l0.length l0) (hc0 : l0.length ≤ c0) (h : spec_l8Hangs.f k l0 = some r) :
  Calls Tryz.prog 56 #[.slice A0 l0.length c0] w fun e w' => e = .returned (.bool r) ∧ Below w.heap.size w w' := by
 have hu37 := Tryz.underlying37; have HR0 := ak hr0; have HC0 := ak hc0; clear hr0 hc0; have HB := ak (Below.refl w.heap.size w); have H : (if 0 ≤ (l0.length : Int) then (if ((l0.length : Int) : Int).toNat ≤ 281474976710656 then ((some (List.replicate ((l0.length : Int) : Int).toNat false : List Bool)).bind fun y314 => (if 0 < (y314.length : Int) then (spec_l8Hangs.l0 k l0 (y314.set (0 : Int).toNat true) (([0] : List Int)) 0) else (none))) else (none)) else (none)) = some r := h; clear h
 revert H; refine ig_ fun c2 H => ?_
 have c2b0 := eq_true c2; have c2b1 := decide_eq_true c2; clear c2
 revert H; refine ig_ fun c3 H => ?_
 have c3b0 := eq_true c3; have c3b1 := decide_eq_true c3; clear c3; obtain ⟨y314, hy314⟩ : ∃ y_ : List Bool, y_ = (List.replicate ((l0.length : Int) : Int).toNat false) := ⟨_, rfl⟩
 replace H : (if 0 < (y314.length : Int) then (spec_l8Hangs.l0 k l0 (y314.set (0 : Int).toNat true) (([0] : List Int)) 0) else (none)) = some r := by first | (rw [hy314]; with_reducible exact H) | (have H2_ := (Option.bind_some _ _).symm.trans H; rw [hy314]; with_reducible exact H2_) | (have H2_ := (Option.bind_some _ _).symm.trans H; with_reducible exact H2_) | with_reducible exact H | (rw [hy314]; exact H) | exact H
 have Ny314 := ak hy314; clear hy314; obtain ⟨y317, hy317⟩ : ∃ y_ : List Int, y_ = (([0] : List Int)) := ⟨_, rfl⟩
 replace H : (if 0 < (y314.length : Int) then (spec_l8Hangs.l0 k l0 (y314.set (0 : Int).toNat true) y317 0) else (none)) = some r := by first | (rw [hy317]; with_reducible exact H) | (have H2_ := (Option.bind_some _ _).symm.trans H; rw [hy317]; with_reducible exact H2_) | (have H2_ := (Option.bind_some _ _).symm.trans H; with_reducible exact H2_) | with_reducible exact H | (rw [hy317]; exact H) | exact H
 have Ny317 := ak hy317; clear hy317
 revert H; refine ig_ fun c4 H => ?_
 have c4b0 := decide_eq_true c4; have c4b1 : decide (0 < y314.length) = true := decide_eq_true (by omega); clear c4; obtain ⟨y320, hy320⟩ : ∃ y_ : List Bool, y_ = (y314.set (0 : Int).toNat true) := ⟨_, rfl⟩
 replace H : (spec_l8Hangs.l0 k l0 y320 y317 0) = some r := by first | (rw [hy320]; with_reducible exact H) | (have H2_ := (Option.bind_some _ _).symm.trans H; rw [hy320]; with_reducible exact H2_) | (have H2_ := (Option.bind_some _ _).symm.trans H; with_reducible exact H2_) | with_reducible exact H | (rw [hy320]; exact H) | exact H
 have Ny320 := ak hy320; clear hy320; have H' := ak H; clear H
 go_enter Tryz.func56, Tryz.ntmps56
 go_wp2_with (first | ((with_reducible refine gate_dst (N := 9) rfl ?_); refine Kd.R_make Kd.bool _ 4 rfl (N := 9) rfl 70 _ _ rfl (l0.length : Int) rfl rfl Tryz.underlying70 (.bool false) 1 info4 rfl (by decide) (by omega) false (ok := fun _ => True) (okp := fun _ => True) rfl (fun _ hk => hk) trivial (dq) (Nat.le_trans (Nat.mul_le_mul_right _ (dq : (l0.length : Int).toNat ≤ 281474976710656)) (by omega)) (Below.refl _ _) (Nat.le_refl _) ?_; intro v315 w6 ho7 hb hg_ hnew_; clear hg_ hnew_; (rw [← Ny314.out] at ho7); have n0_ := ak (Kd.R_lower ho7 (below_size bq)); have n1_ := ak (below_step bq hb); clear HB; have HO316 := n0_; have HB := n1_; clear n0_ n1_; clear hb ho7) | ((with_reducible refine gate_dst (N := 10) rfl ?_); refine Kd.R_lit (Kd.int .i64) _ 3 ?hg (N := 10) ?hd (xs := ([0] : List Int)) (inner := [.int .i64 0]) (ok := fun _ => True) (okp := fun _ => True) ?hr ?hp (fun _ hk => hk) trivial (Below.refl _ _) (Nat.le_refl _) (by simp) ?_; (case hd => rfl); (case hg => rfl); (case hr => (go_simp; done)); (case hp => exact (Reps.one (show Kd.M (Kd.int .i64) _ _ _ 0 [.int .i64 0] from rfl) (Reps.none _ _))); intro v318 w8 ho9 hb hg_ hnew_; clear hg_ hnew_; (rw [← Ny317.out] at ho9); have n0_ := ak (Kd.R_below (rq HO316) hb); have n1_ := ak (Kd.R_lower ho9 (below_size bq)); have n2_ := ak (below_step bq hb); clear HO316; clear HB; have HO316 := n0_; have HO319 := n1_; have HB := n2_; clear n0_ n1_ n2_; clear hb ho9; have p5 : 0 ≤ (0 : Int) := (by omega); have q5 : (0 : Int) < ((y314.length : Int) : Int) := dq; have qi5 : (0 < y314.length) = True := eq_true (by omega); obtain ⟨go5, co5, eo5, gb5, gl5, cl5, HG5⟩ := Kd.R_form HO316.out (by omega); (first | cases eo5 | (injection eo5 with ea_ en_ ec_; (fail); subst ec_; clear en_)); have GB5 := ak gb5; have GG5 := ak HG5; clear gb5 gl5 HG5; obtain ⟨hx5_0, hf5_0⟩ := Kd.R_celln false HO316.out (0 : Int) p5 q5; (try rw [show ((0 : Int)).toNat = 0 from rfl] at hx5_0); (try rw [show ((0 : Int)).toNat = 0 from rfl] at hf5_0); replace p5 := eq_true p5; replace q5 := eq_true q5; obtain ⟨hy10_, hz10_⟩ := Kd.R_celln false HO316.out (0 : Int) (by omega) (dq); (try rw [show ((0 : Int)).toNat = 0 from rfl] at hy10_); (try rw [show ((0 : Int)).toNat = 0 from rfl] at hz10_); have HP10 := Kd.R_putg HO316.out (0 : Int) true) | ((with_reducible refine gate_store (t := 4) (p := 12) rfl ?_); refine store_event (t := 4) (p := 12) (v := ?vo_w11) (w1 := (w8.setCell ⟨go5, (0 : Int).toNat, none⟩ (.bool true))) ?hg ?ho ?hn ?hr ?_; (case ho => rfl); (case hg => rfl); (case hn => rfl); (case hr => (go_simp; done)); intro w11 hw; have hg : w8.grownBy w11 (some go5) := (by rw [hw]; exact HP10.2); have hp_ : Kd.R Kd.bool 4 w11 w.heap.size (fun _ => True) (.slice (some ⟨go5, 0, none⟩) y314.length co5) y320 := (by rw [hw, Ny320.out]; exact HP10.1); clear HP10; have n0_ := ak (hp_); have n1_ := ak (Kd.R_over' (v := (.slice (some ⟨go5, 0, none⟩) y314.length co5)) (rq HO319) (Kd.R_typed HO316.out) (by decide) hg); have n2_ := ak ((by rw [hw]; exact below_set (HB.out) GB5.out : Below w.heap.size w w11)); clear HO316; clear HO319; clear HB; have HO316 := n0_; have HO319 := n1_; have HB := n2_; clear n0_ n1_ n2_; clear hg hw hp_))
 go_loopg [4, 5] k (fun kq v4 v5 w' => ∃ (x3_1 : List Bool) (x4_1 : List Int) (x5_1 : Int), v5 = .int .i64 x5_1 ∧ Aside0 (spec_l8Hangs.l0 kq l0 x3_1 x4_1 x5_1 = some r) ∧ Aside0 (kq ≤ k) ∧ Aside0 (Kd.R Kd.bool 4 w' w.heap.size (fun _ => True) (.slice (some ⟨go5, 0, none⟩) y314.length co5) x3_1) ∧ Aside0 (Kd.R (Kd.int .i64) 3 w' w.heap.size (fun _ => True) v4 x4_1) ∧ Aside0 (Below w.heap.size w w'))
 case atStart => exact ⟨(y320), (y317), (0), sq, H', ⟨Nat.le_refl _⟩, ⟨rq HO316⟩, ⟨rq HO319⟩, ⟨bq⟩⟩
 case round =>
  clear H'; (try clear c2b0); (try clear c2b1); (try clear c3b0); (try clear c3b1); (try clear c4b0); (try clear c4b1); (try clear p5); (try clear q5); (try clear qi5); (try clear hx5_0); obtain ⟨x3_1, x4_1, x5_1, rfl, HA, HK1, HO_3, HO_4, HB⟩ := hrel; have hl3_1 := (Kd.R_reads' HO_3.out).1; rw [hl3_1] at HO_3
  (try simp only [hl3_1])
  cases gk with
  | zero => exact absurd HA.out (by simp [spec_l8Hangs.l0])
  | succ k1 =>
   have H := HA.out; clear HA; simp only [spec_l8Hangs.l0] at H
   by_cases c12 : x5_1 < (x4_1.length : Int)
   ·rw [if_pos c12] at H
    have c12b0 := decide_eq_true c12; clear c12; have H' := ak H; clear H; obtain ⟨Ao13, co13, eo13⟩ := Kd.R_slice HO_4.out; subst eo13; go_wp2
    go_loopg [4, 6] k1 (fun kq v4 v6 w' => ∃ (x3_2 : List Bool) (x4_2 : List Int) (x6_2 : Int), v6 = .int .i64 x6_2 ∧ Aside0 (spec_l8Hangs.l1 kq l0 x3_2 x4_2 x5_1 x6_2 = some r) ∧ Aside0 (kq ≤ k1) ∧ Aside0 (Kd.R Kd.bool 4 w' w.heap.size (fun _ => True) (.slice (some ⟨go5, 0, none⟩) x3_1.length co5) x3_2) ∧ Aside0 (Kd.R (Kd.int .i64) 3 w' w.heap.size (fun _ => True) v4 x4_2) ∧ Aside0 (Below w.heap.size w w'))
    case atStart => exact ⟨(x3_1), (x4_1), (0), sq, H', ⟨Nat.le_refl _⟩, ⟨by exact HO_3.out⟩, ⟨by exact HO_4.out⟩, ⟨bq⟩⟩
    case round =>
     clear H'; (try clear c12b0); obtain ⟨x3_2, x4_2, x6_2, rfl, HA, HK2, HO_3, HO_4, HB⟩ := hrel; have hl3_2 := (Kd.R_reads' HO_3.out).1; rw [hl3_2] at HO_3
     (try simp only [hl3_2])
     cases gk with
     | zero => exact absurd HA.out (by simp [spec_l8Hangs.l1])
     | succ k2 =>
      have H := HA.out; clear HA; simp only [spec_l8Hangs.l1] at H
      by_cases c14 : x6_2 < (l0.length : Int)
      ·rw [if_pos c14] at H
       have c14b0 := decide_eq_true c14; clear c14
       revert H; refine ig_ fun c15 H => ?_
       have c15b0 := decide_eq_true c15; clear c15
       revert H; refine ig_ fun c16 H => ?_
       have c16b0 := decide_eq_true c16; clear c16; obtain ⟨bq17, hbq17⟩ : ∃ b_ : Bool, b_ = (rdOf false x3_2 x6_2) := ⟨_, rfl⟩
       replace H : (if bq17 = true then (spec_l8Hangs.l1 k2 l0 x3_2 x4_2 x5_1 (wrap64 (x6_2 + 1))) else (if 0 ≤ x5_1 then (if x5_1 < (x4_2.length : Int) then (if 0 ≤ (rd x4_2 x5_1) then (if (rd x4_2 x5_1) < (l0.length : Int) then ((spec_l8Near.f ((rd_T37 l0 x6_2).f0) ((rd_T37 l0 x6_2).f1) ((rd_T37 l0 (rd x4_2 x5_1)).f0) ((rd_T37 l0 (rd x4_2 x5_1)).f1)).bind fun t325 => (if t325 = true then (if x4_2.length < 17592186044416 then (spec_l8Hangs.l1 k2 l0 (x3_2.set (x6_2 : Int).toNat true) (x4_2 ++ [x6_2]) x5_1 (wrap64 (x6_2 + 1))) else (none)) else (spec_l8Hangs.l1 k2 l0 x3_2 x4_2 x5_1 (wrap64 (x6_2 + 1))))) else (none)) else (none)) else (none)) else (none))) = some r := by rw [← hbq17] at H; exact H
       have Nbq17 := ak hbq17; clear hbq17
       by_cases c18 : bq17 = true
       ·subst c18
        rw [if_pos rfl] at H; have H' := ak H; clear H; (try go_wp2); have n0_ := ak (Kd.R_drew HO_3.out); have n1_ := ak (Kd.R_drew HO_4.out); have n2_ := ak (below_drew1 HB.out); clear HO_3; clear HO_4; clear HB; have HO_3 := n0_; have HO_4 := n1_; have HB := n2_; clear n0_ n1_ n2_; have p321 : 0 ≤ (x6_2 : Int) := dq; have q321 : x6_2 < (x3_2.length : Int) := dq; obtain ⟨ad321, e321, hx321_0⟩ := Kd.at_bool (Kd.R_reads' HO_3.out).2.2 x6_2 p321 q321
        (try rw [← Nbq17.out] at hx321_0)
        obtain rfl : (⟨go5, 0, none⟩ : Addr) = ad321 := (by injection e321)
        (simp only [add_plain] at hx321_0)
        replace p321 := eq_true p321; replace q321 := eq_true q321; refine start_ (n := 19) (S := fun w' => w'.cell? ⟨go5, (x6_2).toNat, none⟩ = some (.bool true)) (ds := []) #[Z,Z,Z,Z,Z,Z,Z,Z,Z,Z,Z,Z,Z,Z,Z,Z,Z,Z,Z] (by kernel_rfl) rfl rfl (hx321_0) (fun hHeld => ?_); refine with_tabW spec_l8Hangs.tab10 spec_l8Hangs.bits10 (fun HT_ HW_ => ?_)
        generalize wr.drew = w19 at HO_3 HO_4 HB hx321_0 hHeld ⊢
        refine pq_ (i := 0) (N := some 25) #[Y,Z,Z,Z,Z,Z,Z,Z,Z,Z,Z,Z,Z,Z,Z,Z,Z,Z,Z] HT_ ?_; refine pq_ (i := 1) (N := some 26) #[Y,Y,Z,Z,Z,Z,Z,Z,Z,Z,Z,Z,Z,Z,Z,Z,Z,Z,Z] HT_ ?_; refine pq_ (i := 2) (N := some 27) #[Y,Y,Y,Z,Z,Z,Z,Z,Z,Z,Z,Z,Z,Z,Z,Z,Z,Z,Z] HT_ ?_; refine take_ (i := 3) (N := some 28) (v := ?_) (a' := ?_) #[Y,Y,Y,Y,Z,Z,Z,Z,Z,Z,Z,Z,Z,Z,Z,Z,Z,Z,Z] rfl rfl (take_ofW HT_.out HW_.out (by kernel_rfl)) (fun _ _ _ h => h) (Or.inl ⟨by rfl, ?_⟩) hHeld ?_ ?_; rotate_left
        ·intro w' s0
         go_simp
         with_reducible rfl
        rotate_left
        ·simp only [Act.put, sA, sZ, sS, i64_w, i32_w]
         rfl
        refine pq_ (i := 4) (N := some 29) #[Y,Y,Y,Y,Y,Z,Z,Z,Z,Z,Z,Z,Z,Z,Z,Z,Z,Z,Z] HT_ ?_; refine pq_ (i := 5) (N := some 30) #[Y,Y,Y,Y,Y,Y,Z,Z,Z,Z,Z,Z,Z,Z,Z,Z,Z,Z,Z] HT_ ?_; refine pz_ (i := 6) (N := some 31) (v := undef) #[Y,Y,Y,Y,Y,Y,Y,Z,Z,Z,Z,Z,Z,Z,Z,Z,Z,Z,Z] HT_ ?_; refine pz_ (i := 7) (N := some 32) (v := undef) #[Y,Y,Y,Y,Y,Y,Y,Y,Z,Z,Z,Z,Z,Z,Z,Z,Z,Z,Z] HT_ ?_; refine pz_ (i := 8) (N := some 33) (v := undef) #[Y,Y,Y,Y,Y,Y,Y,Y,Y,Z,Z,Z,Z,Z,Z,Z,Z,Z,Z] HT_ ?_; refine pz_ (i := 9) (N := some 34) (v := undef) #[Y,Y,Y,Y,Y,Y,Y,Y,Y,Y,Z,Z,Z,Z,Z,Z,Z,Z,Z] HT_ ?_; refine pz_ (i := 10) (N := some 35) (v := undef) #[Y,Y,Y,Y,Y,Y,Y,Y,Y,Y,Y,Z,Z,Z,Z,Z,Z,Z,Z] HT_ ?_; refine pz_ (i := 11) (N := some 36) (v := undef) #[Y,Y,Y,Y,Y,Y,Y,Y,Y,Y,Y,Y,Z,Z,Z,Z,Z,Z,Z] HT_ ?_; refine pz_ (i := 12) (N := some 37) (v := undef) #[Y,Y,Y,Y,Y,Y,Y,Y,Y,Y,Y,Y,Y,Z,Z,Z,Z,Z,Z] HT_ ?_; refine pz_ (i := 13) (N := some 38) (v := undef) #[Y,Y,Y,Y,Y,Y,Y,Y,Y,Y,Y,Y,Y,Y,Z,Z,Z,Z,Z] HT_ ?_; refine pz_ (i := 14) (N := some 39) (v := undef) #[Y,Y,Y,Y,Y,Y,Y,Y,Y,Y,Y,Y,Y,Y,Y,Z,Z,Z,Z] HT_ ?_; refine pz_ (i := 15) (N := some 40) (v := undef) #[Y,Y,Y,Y,Y,Y,Y,Y,Y,Y,Y,Y,Y,Y,Y,Y,Z,Z,Z] HT_ ?_; refine pz_ (i := 16) (N := some 41) (v := undef) #[Y,Y,Y,Y,Y,Y,Y,Y,Y,Y,Y,Y,Y,Y,Y,Y,Y,Z,Z] HT_ ?_; refine pz_ (i := 17) (N := some 42) (v := undef) #[Y,Y,Y,Y,Y,Y,Y,Y,Y,Y,Y,Y,Y,Y,Y,Y,Y,Y,Z] HT_ ?_; refine pq_ (i := 18) (N := some 43) #[Y,Y,Y,Y,Y,Y,Y,Y,Y,Y,Y,Y,Y,Y,Y,Y,Y,Y,Y] HT_ ?_; refine done_ (done_of HT_.out (by kernel_rfl)) ?_; (try go_wp2)
        (try simp only [← hl3_2])
        go_roundg k2
        case measure => have := HK1.out; have := HK2.out; omega
        case rel => exact ⟨(x3_2), (x4_2), (wrap64 (x6_2 + 1)), sq, H', ⟨by have := HK1.out; have := HK2.out; omega⟩, ⟨by (try simp only [hl3_2]); exact HO_3.out⟩, ⟨by exact HO_4.out⟩, ⟨bq⟩⟩
       ·replace c18 := Bool.eq_false_iff.mpr c18
        subst c18; rw [if_neg (show ¬ (false = true) by decide)] at H
        revert H; refine ig_ fun c20 H => ?_
        have c20b0 := decide_eq_true c20; clear c20
        revert H; refine ig_ fun c21 H => ?_
        have c21b0 := decide_eq_true c21; clear c21
        revert H; refine ig_ fun c22 H => ?_
        have c22b0 := decide_eq_true c22; clear c22
        revert H; refine ig_ fun c23 H => ?_
        have c23b0 := decide_eq_true c23; clear c23; obtain ⟨t325, A240, H⟩ := Option.bind_eq_some_iff.mp H
        have A24 := ak A240; clear A240
        by_cases c25 : t325 = true
        ·subst c25
         rw [if_pos rfl] at H; obtain ⟨y326, hy326⟩ : ∃ y_ : List Bool, y_ = (x3_2.set (x6_2 : Int).toNat true) := ⟨_, rfl⟩
         replace H : (if x4_2.length < 17592186044416 then (spec_l8Hangs.l1 k2 l0 y326 (x4_2 ++ [x6_2]) x5_1 (wrap64 (x6_2 + 1))) else (none)) = some r := by first | (rw [hy326]; with_reducible exact H) | (have H2_ := (Option.bind_some _ _).symm.trans H; rw [hy326]; with_reducible exact H2_) | (have H2_ := (Option.bind_some _ _).symm.trans H; with_reducible exact H2_) | with_reducible exact H | (rw [hy326]; exact H) | exact H
         have Ny326 := ak hy326; clear hy326
         revert H; refine ig_ fun c27 H => ?_
         have LMc27 := ak c27; clear c27; obtain ⟨y327, hy327⟩ : ∃ y_ : List Int, y_ = (x4_2 ++ [x6_2]) := ⟨_, rfl⟩
         replace H : (spec_l8Hangs.l1 k2 l0 y326 y327 x5_1 (wrap64 (x6_2 + 1))) = some r := by first | (rw [hy327]; with_reducible exact H) | (have H2_ := (Option.bind_some _ _).symm.trans H; rw [hy327]; with_reducible exact H2_) | (have H2_ := (Option.bind_some _ _).symm.trans H; with_reducible exact H2_) | with_reducible exact H | (rw [hy327]; exact H) | exact H
         have Ny327 := ak hy327; clear hy327; have H' := ak H; clear H; (try go_wp2); have n0_ := ak (Kd.R_drew HO_3.out); have n1_ := ak (Kd.R_drew HO_4.out); have n2_ := ak (below_drew1 HB.out); clear HO_3; clear HO_4; clear HB; have HO_3 := n0_; have HO_4 := n1_; have HB := n2_; clear n0_ n1_ n2_; have p321 : 0 ≤ (x6_2 : Int) := dq; have q321 : x6_2 < (x3_2.length : Int) := dq; obtain ⟨ad321, e321, hx321_0⟩ := Kd.at_bool (Kd.R_reads' HO_3.out).2.2 x6_2 p321 q321
         (try rw [← Nbq17.out] at hx321_0)
         obtain rfl : (⟨go5, 0, none⟩ : Addr) = ad321 := (by injection e321)
         (simp only [add_plain] at hx321_0)
         replace p321 := eq_true p321; replace q321 := eq_true q321; have p322 : 0 ≤ (x6_2 : Int) := dq; have q322 : x6_2 < (l0.length : Int) := dq; obtain ⟨ad322, e322, hx322_0, hx322_1⟩ := at_T37 HR0.out x6_2 p322 q322; have hw322_1 := hx322_1; have hw322_0 := hx322_0; cases e322; replace hx322_0 := hb_ HB hx322_0; replace hx322_1 := hb_ HB hx322_1; replace p322 := eq_true p322; replace q322 := eq_true q322; obtain ⟨Ao29, co29, eo29⟩ := Kd.R_slice HO_4.out
         (subst eo29)
         have p323 : 0 ≤ (x5_1 : Int) := dq; have q323 : x5_1 < (x4_2.length : Int) := dq; obtain ⟨ad323, e323, hx323_0⟩ := Kd.at_int (Kd.R_reads' HO_4.out).2.2 x5_1 p323 q323; cases e323; replace p323 := eq_true p323; replace q323 := eq_true q323; have p324 : 0 ≤ ((rd x4_2 x5_1) : Int) := dq; have q324 : (rd x4_2 x5_1) < (l0.length : Int) := dq; obtain ⟨ad324, e324, hx324_0, hx324_1⟩ := at_T37 HR0.out (rd x4_2 x5_1) p324 q324; have hw324_1 := hx324_1; have hw324_0 := hx324_0; obtain rfl : ad322 = ad324 := (by injection e324); replace hx324_0 := hb_ HB hx324_0; replace hx324_1 := hb_ HB hx324_1; replace p324 := eq_true p324; replace q324 := eq_true q324; refine start_ (n := 19) (S := fun w' => w'.cell? ⟨go5, (x6_2).toNat, none⟩ = some (.bool false) ∧ w'.cell? (ad322.add ((x6_2).toNat * 2)) = some (.int .i64 ((rd_T37 l0 x6_2).f0)) ∧ w'.cell? ⟨(ad322.add ((x6_2).toNat * 2)).block, (ad322.add ((x6_2).toNat * 2)).off + 1, none⟩ = some (.int .i64 ((rd_T37 l0 x6_2).f1)) ∧ w'.cell? (ad323.add (x5_1).toNat) = some (.int .i64 (rd x4_2 x5_1)) ∧ w'.cell? (ad322.add (((rd x4_2 x5_1)).toNat * 2)) = some (.int .i64 ((rd_T37 l0 (rd x4_2 x5_1)).f0)) ∧ w'.cell? ⟨(ad322.add (((rd x4_2 x5_1)).toNat * 2)).block, (ad322.add (((rd x4_2 x5_1)).toNat * 2)).off + 1, none⟩ = some (.int .i64 ((rd_T37 l0 (rd x4_2 x5_1)).f1))) (ds := []) #[Z,Z,Z,Z,Z,Z,Z,Z,Z,Z,Z,Z,Z,Z,Z,Z,Z,Z,Z] (by kernel_rfl) rfl rfl ⟨hx321_0, ((hb_ HB hw322_0).trans rfl), ((hb_ HB hw322_1).trans rfl), hx323_0, ((hb_ HB hw324_0).trans rfl), ((hb_ HB hw324_1).trans rfl)⟩ (fun hHeld => ?_); refine with_tabW spec_l8Hangs.tab10 spec_l8Hangs.bits10 (fun HT_ HW_ => ?_)
         generalize wr.drew = w28 at HO_3 HO_4 HB hx321_0 hx322_0 hx322_1 hx323_0 hx324_0 hx324_1 hHeld ⊢
         refine pq_ (i := 0) (N := some 25) #[Y,Z,Z,Z,Z,Z,Z,Z,Z,Z,Z,Z,Z,Z,Z,Z,Z,Z,Z] HT_ ?_; refine pq_ (i := 1) (N := some 26) #[Y,Y,Z,Z,Z,Z,Z,Z,Z,Z,Z,Z,Z,Z,Z,Z,Z,Z,Z] HT_ ?_; refine pq_ (i := 2) (N := some 27) #[Y,Y,Y,Z,Z,Z,Z,Z,Z,Z,Z,Z,Z,Z,Z,Z,Z,Z,Z] HT_ ?_; refine tk_ (i := 3) (N := some 28) #[Y,Y,Y,Y,Z,Z,Z,Z,Z,Z,Z,Z,Z,Z,Z,Z,Z,Z,Z] HT_ HW_ hHeld ?_; refine pq_ (i := 4) (N := some 29) #[Y,Y,Y,Y,Y,Z,Z,Z,Z,Z,Z,Z,Z,Z,Z,Z,Z,Z,Z] HT_ ?_; refine pq_ (i := 5) (N := some 30) #[Y,Y,Y,Y,Y,Y,Z,Z,Z,Z,Z,Z,Z,Z,Z,Z,Z,Z,Z] HT_ ?_; refine pq_ (i := 6) (N := some 31) #[Y,Y,Y,Y,Y,Y,Y,Z,Z,Z,Z,Z,Z,Z,Z,Z,Z,Z,Z] HT_ ?_; refine pq_ (i := 7) (N := some 32) #[Y,Y,Y,Y,Y,Y,Y,Y,Z,Z,Z,Z,Z,Z,Z,Z,Z,Z,Z] HT_ ?_; refine pq_ (i := 8) (N := some 33) #[Y,Y,Y,Y,Y,Y,Y,Y,Y,Z,Z,Z,Z,Z,Z,Z,Z,Z,Z] HT_ ?_; refine pq_ (i := 10) (N := some 35) #[Y,Y,Y,Y,Y,Y,Y,Y,Y,Z,Y,Z,Z,Z,Z,Z,Z,Z,Z] HT_ ?_; refine pq_ (i := 11) (N := some 36) #[Y,Y,Y,Y,Y,Y,Y,Y,Y,Z,Y,Y,Z,Z,Z,Z,Z,Z,Z] HT_ ?_; refine pq_ (i := 12) (N := some 37) #[Y,Y,Y,Y,Y,Y,Y,Y,Y,Z,Y,Y,Y,Z,Z,Z,Z,Z,Z] HT_ ?_; refine pq_ (i := 13) (N := some 38) #[Y,Y,Y,Y,Y,Y,Y,Y,Y,Z,Y,Y,Y,Y,Z,Z,Z,Z,Z] HT_ ?_; refine tk_ (i := 9) (N := some 34) #[Y,Y,Y,Y,Y,Y,Y,Y,Y,Y,Y,Y,Y,Y,Z,Z,Z,Z,Z] HT_ HW_ hHeld ?_; refine tk_ (i := 14) (N := some 39) #[Y,Y,Y,Y,Y,Y,Y,Y,Y,Y,Y,Y,Y,Y,Y,Z,Z,Z,Z] HT_ HW_ hHeld ?_; refine pq_ (i := 15) (N := some 40) #[Y,Y,Y,Y,Y,Y,Y,Y,Y,Y,Y,Y,Y,Y,Y,Y,Z,Z,Z] HT_ ?_; refine tk_ (i := 16) (N := some 41) #[Y,Y,Y,Y,Y,Y,Y,Y,Y,Y,Y,Y,Y,Y,Y,Y,Y,Z,Z] HT_ HW_ hHeld ?_; refine one_ (i := 17) (N := some 42) #[Y,Y,Y,Y,Y,Y,Y,Y,Y,Y,Y,Y,Y,Y,Y,Y,Y,Y,Z] rfl rfl (one_of HT_.out (by kernel_rfl)) (by decide) (fun K hK => ?_); refine goes_ Tryz.func66 (by kernel_rfl) rfl #[.agg #[.int .i64 ((rd_T37 l0 x6_2).f0), .int .i64 ((rd_T37 l0 x6_2).f1)], .agg #[.int .i64 ((rd_T37 l0 (rd x4_2 x5_1)).f0), .int .i64 ((rd_T37 l0 (rd x4_2 x5_1)).f1)]] (by rfl) rfl rfl aq ?_
         with_reducible refine (spec_l8Near.calls ((rd_T37 l0 x6_2).f0) ((rd_T37 l0 x6_2).f1) ((rd_T37 l0 (rd x4_2 x5_1)).f0) ((rd_T37 l0 (rd x4_2 x5_1)).f1) true _ A24.out).mono ?_
         rintro e w30 ⟨rfl, hb⟩
         have HS0_ := (hb.cell (World.block_lt_of_cell? _ _ (hHeld.1))).trans (hHeld.1); have HS3_ := (hb.cell (World.block_lt_of_cell? _ _ (hHeld.2.2.2.1))).trans (hHeld.2.2.2.1); refine ⟨_, rfl, ?_⟩; have n0_ := ak (Kd.R_below (rq HO_3) hb); have n1_ := ak (Kd.R_below (rq HO_4) hb); have n2_ := ak (below_step bq hb); clear HO_3; clear HO_4; clear HB; have HO_3 := n0_; have HO_4 := n1_; have HB := n2_; clear n0_ n1_ n2_
         (try clear hb)
         refine hK.out _ _ ⟨HS0_, ((hb_ HB hw322_0).trans rfl), ((hb_ HB hw322_1).trans rfl), HS3_, ((hb_ HB hw324_0).trans rfl), ((hb_ HB hw324_1).trans rfl)⟩ (fun hHeld => ?_); clear hK K; refine norm_ (a' := ?_) ?_ ?_; rotate_left
         ·show Act.put _ (some 42) _ = _
          simp only [Act.put, sA, sZ, sS, i64_w, i32_w]
          rfl
         refine pq_ (i := 18) (N := some 43) #[Y,Y,Y,Y,Y,Y,Y,Y,Y,Y,Y,Y,Y,Y,Y,Y,Y,Y,Y] HT_ ?_; refine done_ (done_of HT_.out (by kernel_rfl)) ?_; have p26 : 0 ≤ (x6_2 : Int) := dq; have q26 : (x6_2 : Int) < ((x3_2.length : Int) : Int) := dq; obtain ⟨hx26_0, hf26_0⟩ := Kd.R_celln false HO_3.out (x6_2 : Int) p26 q26; replace p26 := eq_true p26; replace q26 := eq_true q26; obtain ⟨hy31_, hz31_⟩ := Kd.R_celln false HO_3.out (x6_2 : Int) (dq) (dq); have HP31 := Kd.R_putg HO_3.out (x6_2 : Int) true
         try go_wp2_with (first | ((with_reducible refine gate_store (t := 4) (p := 46) rfl ?_); refine store_event (t := 4) (p := 46) (v := ?vo_w32) (w1 := (w30.setCell ⟨go5, (x6_2 : Int).toNat, none⟩ (.bool true))) ?hg ?ho ?hn ?hr ?_; (case ho => rfl); (case hg => rfl); (case hn => rfl); (case hr => (go_simp; done)); intro w32 hw; have hg : w30.grownBy w32 (some go5) := (by rw [hw]; exact HP31.2); have hp_ : Kd.R Kd.bool 4 w32 w.heap.size (fun _ => True) (.slice (some ⟨go5, 0, none⟩) x3_2.length co5) y326 := (by rw [hw, Ny326.out]; exact HP31.1); clear HP31; have n0_ := ak (hp_); have n1_ := ak (Kd.R_over' (v := (.slice (some ⟨go5, 0, none⟩) x3_2.length co5)) (rq HO_4) (Kd.R_typed HO_3.out) (by decide) hg); have n2_ := ak ((by rw [hw]; exact below_set (HB.out) GB5.out : Below w.heap.size w w32)); clear HO_3; clear HO_4; clear HB; have HO_3 := n0_; have HO_4 := n1_; have HB := n2_; clear n0_ n1_ n2_; clear hg hw hp_) | ((with_reducible refine gate_builtin (b := .append) (xs := #[.tmp 47, .tmp 49]) rfl ?_); at_builtin; refine Kd.R_append (Kd.int .i64) (w0 := w) w.heap.size rfl (.tmp 47) (.tmp 49) 26 3 (.int .i64 0) 8 rfl Tryz.underlying26 info3 rfl (by decide) (by omega) (.slice (some ad323) x4_2.length co29) x4_2 x6_2 [.int .i64 x6_2] (fun _ => True) (fun _ => False) rfl rfl ?aP (fun _ hk => hk.elim) ?aF ?aO ?aB ?aS ?aL ?_; (case aP => exact rfl); (case aB => exact bq); (case aF => exact (fun _ _ => trivial)); (case aO => exact (rq HO_4)); (case aS => exact (below_size bq)); (case aL => have := LMc27.out; omega); intro v328 w33 ho hb hg hat; rw [← Ny327.out] at ho; have n0_ := ak (Kd.R_over' (rq HO_3) (Kd.R_typed (rq HO_4)) (by decide) hg); have n1_ := ak (hb); have n2_ := ak (ho); clear HO_3; clear HB; clear HO_4; have HO_3 := n0_; have HB := n1_; have HO329 := n2_; clear n0_ n1_ n2_; clear ho hb hg hat))
         (try simp only [← hl3_2])
         go_roundg k2
         case measure => have := HK1.out; have := HK2.out; omega
         case rel => exact ⟨(y326), (y327), (wrap64 (x6_2 + 1)), sq, H', ⟨by have := HK1.out; have := HK2.out; omega⟩, ⟨by (try simp only [hl3_2]); exact HO_3.out⟩, ⟨by exact HO329.out⟩, ⟨bq⟩⟩
        ·replace c25 := Bool.eq_false_iff.mpr c25
         subst c25; rw [if_neg (show ¬ (false = true) by decide)] at H; have H' := ak H; clear H; (try go_wp2); have n0_ := ak (Kd.R_drew HO_3.out); have n1_ := ak (Kd.R_drew HO_4.out); have n2_ := ak (below_drew1 HB.out); clear HO_3; clear HO_4; clear HB; have HO_3 := n0_; have HO_4 := n1_; have HB := n2_; clear n0_ n1_ n2_; have p321 : 0 ≤ (x6_2 : Int) := dq; have q321 : x6_2 < (x3_2.length : Int) := dq; obtain ⟨ad321, e321, hx321_0⟩ := Kd.at_bool (Kd.R_reads' HO_3.out).2.2 x6_2 p321 q321
         (try rw [← Nbq17.out] at hx321_0)
         obtain rfl : (⟨go5, 0, none⟩ : Addr) = ad321 := (by injection e321)
         (simp only [add_plain] at hx321_0)
         replace p321 := eq_true p321; replace q321 := eq_true q321; have p322 : 0 ≤ (x6_2 : Int) := dq; have q322 : x6_2 < (l0.length : Int) := dq; obtain ⟨ad322, e322, hx322_0, hx322_1⟩ := at_T37 HR0.out x6_2 p322 q322; have hw322_1 := hx322_1; have hw322_0 := hx322_0; cases e322; replace hx322_0 := hb_ HB hx322_0; replace hx322_1 := hb_ HB hx322_1; replace p322 := eq_true p322; replace q322 := eq_true q322; obtain ⟨Ao35, co35, eo35⟩ := Kd.R_slice HO_4.out
         (subst eo35)
         have p323 : 0 ≤ (x5_1 : Int) := dq; have q323 : x5_1 < (x4_2.length : Int) := dq; obtain ⟨ad323, e323, hx323_0⟩ := Kd.at_int (Kd.R_reads' HO_4.out).2.2 x5_1 p323 q323; cases e323; replace p323 := eq_true p323; replace q323 := eq_true q323; have p324 : 0 ≤ ((rd x4_2 x5_1) : Int) := dq; have q324 : (rd x4_2 x5_1) < (l0.length : Int) := dq; obtain ⟨ad324, e324, hx324_0, hx324_1⟩ := at_T37 HR0.out (rd x4_2 x5_1) p324 q324; have hw324_1 := hx324_1; have hw324_0 := hx324_0; obtain rfl : ad322 = ad324 := (by injection e324); replace hx324_0 := hb_ HB hx324_0; replace hx324_1 := hb_ HB hx324_1; replace p324 := eq_true p324; replace q324 := eq_true q324; refine start_ (n := 19) (S := fun w' => w'.cell? ⟨go5, (x6_2).toNat, none⟩ = some (.bool false) ∧ w'.cell? (ad322.add ((x6_2).toNat * 2)) = some (.int .i64 ((rd_T37 l0 x6_2).f0)) ∧ w'.cell? ⟨(ad322.add ((x6_2).toNat * 2)).block, (ad322.add ((x6_2).toNat * 2)).off + 1, none⟩ = some (.int .i64 ((rd_T37 l0 x6_2).f1)) ∧ w'.cell? (ad323.add (x5_1).toNat) = some (.int .i64 (rd x4_2 x5_1)) ∧ w'.cell? (ad322.add (((rd x4_2 x5_1)).toNat * 2)) = some (.int .i64 ((rd_T37 l0 (rd x4_2 x5_1)).f0)) ∧ w'.cell? ⟨(ad322.add (((rd x4_2 x5_1)).toNat * 2)).block, (ad322.add (((rd x4_2 x5_1)).toNat * 2)).off + 1, none⟩ = some (.int .i64 ((rd_T37 l0 (rd x4_2 x5_1)).f1))) (ds := []) #[Z,Z,Z,Z,Z,Z,Z,Z,Z,Z,Z,Z,Z,Z,Z,Z,Z,Z,Z] (by kernel_rfl) rfl rfl ⟨hx321_0, ((hb_ HB hw322_0).trans rfl), ((hb_ HB hw322_1).trans rfl), hx323_0, ((hb_ HB hw324_0).trans rfl), ((hb_ HB hw324_1).trans rfl)⟩ (fun hHeld => ?_); refine with_tabW spec_l8Hangs.tab10 spec_l8Hangs.bits10 (fun HT_ HW_ => ?_)
         generalize wr.drew = w34 at HO_3 HO_4 HB hx321_0 hx322_0 hx322_1 hx323_0 hx324_0 hx324_1 hHeld ⊢
         refine pq_ (i := 0) (N := some 25) #[Y,Z,Z,Z,Z,Z,Z,Z,Z,Z,Z,Z,Z,Z,Z,Z,Z,Z,Z] HT_ ?_; refine pq_ (i := 1) (N := some 26) #[Y,Y,Z,Z,Z,Z,Z,Z,Z,Z,Z,Z,Z,Z,Z,Z,Z,Z,Z] HT_ ?_; refine pq_ (i := 2) (N := some 27) #[Y,Y,Y,Z,Z,Z,Z,Z,Z,Z,Z,Z,Z,Z,Z,Z,Z,Z,Z] HT_ ?_; refine tk_ (i := 3) (N := some 28) #[Y,Y,Y,Y,Z,Z,Z,Z,Z,Z,Z,Z,Z,Z,Z,Z,Z,Z,Z] HT_ HW_ hHeld ?_; refine pq_ (i := 4) (N := some 29) #[Y,Y,Y,Y,Y,Z,Z,Z,Z,Z,Z,Z,Z,Z,Z,Z,Z,Z,Z] HT_ ?_; refine pq_ (i := 5) (N := some 30) #[Y,Y,Y,Y,Y,Y,Z,Z,Z,Z,Z,Z,Z,Z,Z,Z,Z,Z,Z] HT_ ?_; refine pq_ (i := 6) (N := some 31) #[Y,Y,Y,Y,Y,Y,Y,Z,Z,Z,Z,Z,Z,Z,Z,Z,Z,Z,Z] HT_ ?_; refine pq_ (i := 7) (N := some 32) #[Y,Y,Y,Y,Y,Y,Y,Y,Z,Z,Z,Z,Z,Z,Z,Z,Z,Z,Z] HT_ ?_; refine pq_ (i := 8) (N := some 33) #[Y,Y,Y,Y,Y,Y,Y,Y,Y,Z,Z,Z,Z,Z,Z,Z,Z,Z,Z] HT_ ?_; refine pq_ (i := 10) (N := some 35) #[Y,Y,Y,Y,Y,Y,Y,Y,Y,Z,Y,Z,Z,Z,Z,Z,Z,Z,Z] HT_ ?_; refine pq_ (i := 11) (N := some 36) #[Y,Y,Y,Y,Y,Y,Y,Y,Y,Z,Y,Y,Z,Z,Z,Z,Z,Z,Z] HT_ ?_; refine pq_ (i := 12) (N := some 37) #[Y,Y,Y,Y,Y,Y,Y,Y,Y,Z,Y,Y,Y,Z,Z,Z,Z,Z,Z] HT_ ?_; refine pq_ (i := 13) (N := some 38) #[Y,Y,Y,Y,Y,Y,Y,Y,Y,Z,Y,Y,Y,Y,Z,Z,Z,Z,Z] HT_ ?_; refine tk_ (i := 9) (N := some 34) #[Y,Y,Y,Y,Y,Y,Y,Y,Y,Y,Y,Y,Y,Y,Z,Z,Z,Z,Z] HT_ HW_ hHeld ?_; refine tk_ (i := 14) (N := some 39) #[Y,Y,Y,Y,Y,Y,Y,Y,Y,Y,Y,Y,Y,Y,Y,Z,Z,Z,Z] HT_ HW_ hHeld ?_; refine pq_ (i := 15) (N := some 40) #[Y,Y,Y,Y,Y,Y,Y,Y,Y,Y,Y,Y,Y,Y,Y,Y,Z,Z,Z] HT_ ?_; refine tk_ (i := 16) (N := some 41) #[Y,Y,Y,Y,Y,Y,Y,Y,Y,Y,Y,Y,Y,Y,Y,Y,Y,Z,Z] HT_ HW_ hHeld ?_; refine one_ (i := 17) (N := some 42) #[Y,Y,Y,Y,Y,Y,Y,Y,Y,Y,Y,Y,Y,Y,Y,Y,Y,Y,Z] rfl rfl (one_of HT_.out (by kernel_rfl)) (by decide) (fun K hK => ?_); refine goes_ Tryz.func66 (by kernel_rfl) rfl #[.agg #[.int .i64 ((rd_T37 l0 x6_2).f0), .int .i64 ((rd_T37 l0 x6_2).f1)], .agg #[.int .i64 ((rd_T37 l0 (rd x4_2 x5_1)).f0), .int .i64 ((rd_T37 l0 (rd x4_2 x5_1)).f1)]] (by rfl) rfl rfl aq ?_
         with_reducible refine (spec_l8Near.calls ((rd_T37 l0 x6_2).f0) ((rd_T37 l0 x6_2).f1) ((rd_T37 l0 (rd x4_2 x5_1)).f0) ((rd_T37 l0 (rd x4_2 x5_1)).f1) false _ A24.out).mono ?_
         rintro e w36 ⟨rfl, hb⟩
         have HS0_ := (hb.cell (World.block_lt_of_cell? _ _ (hHeld.1))).trans (hHeld.1); have HS3_ := (hb.cell (World.block_lt_of_cell? _ _ (hHeld.2.2.2.1))).trans (hHeld.2.2.2.1); refine ⟨_, rfl, ?_⟩; have n0_ := ak (Kd.R_below (rq HO_3) hb); have n1_ := ak (Kd.R_below (rq HO_4) hb); have n2_ := ak (below_step bq hb); clear HO_3; clear HO_4; clear HB; have HO_3 := n0_; have HO_4 := n1_; have HB := n2_; clear n0_ n1_ n2_
         (try clear hb)
         refine hK.out _ _ ⟨HS0_, ((hb_ HB hw322_0).trans rfl), ((hb_ HB hw322_1).trans rfl), HS3_, ((hb_ HB hw324_0).trans rfl), ((hb_ HB hw324_1).trans rfl)⟩ (fun hHeld => ?_); clear hK K; refine norm_ (a' := ?_) ?_ ?_; rotate_left
         ·show Act.put _ (some 42) _ = _
          simp only [Act.put, sA, sZ, sS, i64_w, i32_w]
          rfl
         refine pq_ (i := 18) (N := some 43) #[Y,Y,Y,Y,Y,Y,Y,Y,Y,Y,Y,Y,Y,Y,Y,Y,Y,Y,Y] HT_ ?_; refine done_ (done_of HT_.out (by kernel_rfl)) ?_; (try go_wp2)
         (try simp only [← hl3_2])
         go_roundg k2
         case measure => have := HK1.out; have := HK2.out; omega
         case rel => exact ⟨(x3_2), (x4_2), (wrap64 (x6_2 + 1)), sq, H', ⟨by have := HK1.out; have := HK2.out; omega⟩, ⟨by (try simp only [hl3_2]); exact HO_3.out⟩, ⟨by exact HO_4.out⟩, ⟨bq⟩⟩
      ·rw [if_neg c14] at H
       have c14b0 := decide_eq_false c14; clear c14; have H' := ak H; clear H; go_wp2
       (try simp only [← hl3_1, ← hl3_2])
       go_roundg k2
       case measure => have := HK1.out; have := HK2.out; omega
       case rel => exact ⟨(x3_2), (x4_2), (wrap64 (x5_1 + 1)), sq, H', ⟨by have := HK1.out; have := HK2.out; omega⟩, ⟨by (try simp only [hl3_1]); (try simp only [hl3_2]); exact HO_3.out⟩, ⟨by exact HO_4.out⟩, ⟨bq⟩⟩
   ·rw [if_neg c12] at H
    have c12b0 := decide_eq_false c12; clear c12; obtain rfl := Option.some.inj H; obtain ⟨Ao37, co37, eo37⟩ := Kd.R_slice HO_4.out; subst eo37; go_wp2; go_ret; exact ⟨eq_, bq⟩
/-! ### spec_l8Body: function 24 -/
mutual
def spec_l8Body.l0 : Nat → List (S37) → Int → Int → Int → Option (Bool)
 | 0, _, _, _, _ => none
 | k + 1, x0, x3, x4, x5 => if x5 < (x0.length : Int) then (if 0 ≤ x5 then ((spec_l1In.f ((rd_T37 x0 x5).f0) 0 12).bind fun t335 => (if t335 = true then ((spec_l1In.f ((rd_T37 x0 x5).f1) 0 12).bind fun t337 => (if t337 = true then (if x5 > 0 then (if 0 ≤ (wrap64 (x5 - 1)) then (if (wrap64 (x5 - 1)) < (x0.length : Int) then ((spec_l8Before.f ((rd_T37 x0 (wrap64 (x5 - 1))).f0) ((rd_T37 x0 (wrap64 (x5 - 1))).f1) ((rd_T37 x0 x5).f0) ((rd_T37 x0 x5).f1)).bind fun t340 => (spec_l8Body.j1 k x0 x3 x4 x5 (!t340))) else (none)) else (none)) else (spec_l8Body.j1 k x0 x3 x4 x5 false)) else (spec_l8Body.j1 k x0 x3 x4 x5 true))) else (spec_l8Body.j1 k x0 x3 x4 x5 true))) else (none)) else (if x3 = 0 then (if x4 = 0 then ((spec_l8Hangs.f k x0).bind fun t333 => (some t333)) else (some false)) else (some false))
def spec_l8Body.j1 : Nat → List (S37) → Int → Int → Int → Bool → Option (Bool)
 | 0, _, _, _, _, _ => none
 | k + 1, x0, x3, x4, x5, x56 => if x56 = true then (some false) else (if 0 ≤ x5 then (if x5 < (x0.length : Int) then ((spec_l1Least.f x3 ((rd_T37 x0 x5).f0)).bind fun t342 => ((spec_l1Least.f x4 ((rd_T37 x0 x5).f1)).bind fun t344 => (spec_l8Body.l0 k x0 t342 t344 (wrap64 (x5 + 1))))) else (none)) else (none))
end
def spec_l8Body.f (k : Nat) (l0 : List (S37)) : Option (Bool) := (spec_l1In.f (l0.length : Int) 1 12).bind fun t330 => (if t330 = true then (if 0 < (l0.length : Int) then (spec_l8Body.l0 k l0 ((rd_T37 l0 0).f0) ((rd_T37 l0 0).f1) 0) else (none)) else (some false))
def spec_l8Body.T3 : Bool × List (List Nat × List Nat) := (true, [([], []), ([0], [0]), ([1], [1]), ([2], [2]), ([], []), ([4], [4]), ([5], [5]), ([6], [6]), ([3, 0, 1, 2, 3], [3]), ([7, 8, 0, 1, 2, 3, 4, 5, 6, 7, 8], [7])])
def spec_l8Body.B3 : List Nat := [0, 1, 3, 7, 0, 16, 48, 112, 15, 511]
theorem spec_l8Body.tab3 : rtab .any (opsOf Tryz.f24 3) = spec_l8Body.T3 := by kernel_rfl
theorem spec_l8Body.bits3 : waitsOk spec_l8Body.T3.2 spec_l8Body.B3 = true := by kernel_rfl
def spec_l8Body.T7 : Bool × List (List Nat × List Nat) := (true, [([], []), ([], []), ([0, 1], [0, 1]), ([2], [2]), ([3], [3]), ([4], [4]), ([5], [5]), ([6, 5], [6]), ([7], [7]), ([7], [7]), ([8, 9, 7], [7, 8, 9]), ([10, 7], [7, 10]), ([11, 7], [7, 11]), ([12, 7, 7], [7, 12]), ([13, 7], [7, 13]), ([7, 14], [7, 14]), ([15, 13], [15]), ([16], [16]), ([17, 16], [16, 17]), ([18, 16, 16], [16, 18]), ([19], [19]), ([19], [19]), ([21, 19], [19, 21]), ([20, 22, 19], [19, 20, 22]), ([23, 19], [19, 23]), ([19], [19]), ([19], [19]), ([25, 26, 19], [19, 25, 26]), ([27, 19], [19, 27]), ([24, 28, 19, 19], [19, 24, 28]), ([29, 19], [19, 29]), ([19, 30, 16], [16, 19, 30]), ([16, 31], [16, 31])])
def spec_l8Body.B7 : List Nat := [0, 0, 3, 7, 15, 31, 63, 127, 255, 255, 1023, 2047, 4095, 8191, 16383, 32767, 65535, 131071, 262143, 524287, 1048575, 1048575, 3145727, 8388607, 16777215, 1048575, 1048575, 101711871, 235929599, 536870911, 1073741823, 2147483647, 4294967295]
theorem spec_l8Body.tab7 : rtab .any (opsOf Tryz.f24 7) = spec_l8Body.T7 := by kernel_rfl
theorem spec_l8Body.bits7 : waitsOk spec_l8Body.T7.2 spec_l8Body.B7 = true := by kernel_rfl
theorem spec_l8Body.calls (k : Nat) (A0 : Option Addr) (c0 : Nat) (l0 : List (S37)) (r : Bool) (w : World) (hr0 : Kd.C k37 w A0 l0.length l0) (hc0 : l0.length ≤ c0) (h : spec_l8Body.f k l0 = some r) :
  Calls Tryz.prog 24 #[.slice A0 l0.length c0] w fun e w' => e = .returned (.bool r) ∧ Below w.heap.size w w' := by
 have hu37 := Tryz.underlying37; have HR0 := ak hr0; have HC0 := ak hc0; clear hr0 hc0; have HB := ak (Below.refl w.heap.size w); have H : ((spec_l1In.f (l0.length : Int) 1 12).bind fun t330 => (if t330 = true then (if 0 < (l0.length : Int) then (spec_l8Body.l0 k l0 ((rd_T37 l0 0).f0) ((rd_T37 l0 0).f1) 0) else (none)) else (some false))) = some r := h; clear h; obtain ⟨t330, A20, H⟩ := Option.bind_eq_some_iff.mp H
 have A2 := ak A20; clear A20
 by_cases c3 : t330 = true
 ·subst c3
  rw [if_pos rfl] at H
  revert H; refine ig_ fun c4 H => ?_
  have c4b0 := decide_eq_true c4; have c4b1 : decide (0 < l0.length) = true := decide_eq_true (by omega); clear c4; have H' := ak H; clear H
  go_enter Tryz.func24, Tryz.ntmps24
  try go_wp2_with (((with_reducible refine gate_callee (f := 48) rfl ?_); refine goesL_ (some 8) rfl rfl Tryz.func48 (by kernel_rfl) rfl #[.int .i64 (l0.length : Int), .int .i64 1, .int .i64 12] rfl aq ?_; (with_reducible refine (spec_l1In.calls (l0.length : Int) 1 12 true _ A2.out).mono ?_); rintro e w' ⟨rfl, ⟨nd, rfl⟩⟩; refine ⟨_, rfl, ?_⟩))
  have n0_ := ak (below_drew1 HB.out); clear HB; have HB := n0_; clear n0_; have p331 : 0 ≤ (0 : Int) := (by omega); have q331 : 0 < (l0.length : Int) := dq; obtain ⟨ad331, e331, hx331_0, hx331_1⟩ := at_T37 HR0.out 0 p331 q331; have hw331_1 := hx331_1
  (try rw [show ((0 : Int)).toNat = 0 from rfl] at hw331_1)
  (try rw [show 0 * 2 = 0 from rfl] at hw331_1)
  (try rw [Addr.add_zero'] at hw331_1)
  have hw331_0 := hx331_0
  (try rw [show ((0 : Int)).toNat = 0 from rfl] at hw331_0)
  (try rw [show 0 * 2 = 0 from rfl] at hw331_0)
  (try rw [Addr.add_zero'] at hw331_0)
  cases e331; have qi331 : (0 < l0.length) = True := eq_true (by omega)
  (try rw [show ((0 : Int)).toNat = 0 from rfl] at hx331_0)
  (try rw [show 0 * 2 = 0 from rfl] at hx331_0)
  (try rw [Addr.add_zero'] at hx331_0)
  (try rw [show ((0 : Int)).toNat = 0 from rfl] at hx331_1)
  (try rw [show 0 * 2 = 0 from rfl] at hx331_1)
  (try rw [Addr.add_zero'] at hx331_1)
  replace hx331_0 := hb_ HB hx331_0; replace hx331_1 := hb_ HB hx331_1; replace p331 := eq_true p331; replace q331 := eq_true q331; have p332 : 0 ≤ (0 : Int) := (by omega); have q332 : 0 < (l0.length : Int) := dq; obtain ⟨ad332, e332, hx332_0, hx332_1⟩ := at_T37 HR0.out 0 p332 q332; have hw332_1 := hx332_1
  (try rw [show ((0 : Int)).toNat = 0 from rfl] at hw332_1)
  (try rw [show 0 * 2 = 0 from rfl] at hw332_1)
  (try rw [Addr.add_zero'] at hw332_1)
  have hw332_0 := hx332_0
  (try rw [show ((0 : Int)).toNat = 0 from rfl] at hw332_0)
  (try rw [show 0 * 2 = 0 from rfl] at hw332_0)
  (try rw [Addr.add_zero'] at hw332_0)
  obtain rfl : ad331 = ad332 := (by injection e332); have qi332 : (0 < l0.length) = True := eq_true (by omega)
  (try rw [show ((0 : Int)).toNat = 0 from rfl] at hx332_0)
  (try rw [show 0 * 2 = 0 from rfl] at hx332_0)
  (try rw [Addr.add_zero'] at hx332_0)
  (try rw [show ((0 : Int)).toNat = 0 from rfl] at hx332_1)
  (try rw [show 0 * 2 = 0 from rfl] at hx332_1)
  (try rw [Addr.add_zero'] at hx332_1)
  replace hx332_0 := hb_ HB hx332_0; replace hx332_1 := hb_ HB hx332_1; replace p332 := eq_true p332; replace q332 := eq_true q332; refine start_ (n := 10) (S := fun w' => w'.cell? ad331 = some (.int .i64 ((rd_T37 l0 0).f0)) ∧ w'.cell? ⟨ad331.block, ad331.off + 1, none⟩ = some (.int .i64 ((rd_T37 l0 0).f1)) ∧ w'.cell? ad331 = some (.int .i64 ((rd_T37 l0 0).f0)) ∧ w'.cell? ⟨ad331.block, ad331.off + 1, none⟩ = some (.int .i64 ((rd_T37 l0 0).f1))) (ds := []) #[Z,Z,Z,Z,Z,Z,Z,Z,Z,Z] (by kernel_rfl) rfl rfl ⟨((hb_ HB hw331_0).trans rfl), ((hb_ HB hw331_1).trans rfl), ((hb_ HB hw332_0).trans rfl), ((hb_ HB hw332_1).trans rfl)⟩ (fun hHeld => ?_); refine with_tabW spec_l8Body.tab3 spec_l8Body.bits3 (fun HT_ HW_ => ?_)
  generalize w.drew = w5 at HB hx331_0 hx331_1 hx332_0 hx332_1 hHeld ⊢
  refine pq_ (i := 0) (N := some 10) #[Y,Z,Z,Z,Z,Z,Z,Z,Z,Z] HT_ ?_; refine pq_ (i := 1) (N := some 11) #[Y,Y,Z,Z,Z,Z,Z,Z,Z,Z] HT_ ?_; refine pq_ (i := 2) (N := some 12) #[Y,Y,Y,Z,Z,Z,Z,Z,Z,Z] HT_ ?_; refine pq_ (i := 4) (N := some 14) #[Y,Y,Y,Z,Y,Z,Z,Z,Z,Z] HT_ ?_; refine pq_ (i := 5) (N := some 15) #[Y,Y,Y,Z,Y,Y,Z,Z,Z,Z] HT_ ?_; refine pq_ (i := 6) (N := some 16) #[Y,Y,Y,Z,Y,Y,Y,Z,Z,Z] HT_ ?_; refine tk_ (i := 3) (N := some 13) #[Y,Y,Y,Y,Y,Y,Y,Z,Z,Z] HT_ HW_ hHeld ?_; refine pq_ (i := 8) (N := some 3) #[Y,Y,Y,Y,Y,Y,Y,Z,Y,Z] HT_ ?_; refine tk_ (i := 7) (N := some 17) #[Y,Y,Y,Y,Y,Y,Y,Y,Y,Z] HT_ HW_ hHeld ?_; refine pq_ (i := 9) (N := some 4) #[Y,Y,Y,Y,Y,Y,Y,Y,Y,Y] HT_ ?_; refine done_ (done_of HT_.out (by kernel_rfl)) ?_; (try go_wp2)
  go_loopg [3, 4, 5] k (fun kq v3 v4 v5 w' => ∃ (x3_1 : Int) (x4_1 : Int) (x5_1 : Int), v3 = .int .i64 x3_1 ∧ v4 = .int .i64 x4_1 ∧ v5 = .int .i64 x5_1 ∧ Aside0 (spec_l8Body.l0 kq l0 x3_1 x4_1 x5_1 = some r) ∧ Aside0 (kq ≤ k) ∧ Aside0 (Below w.heap.size w w'))
  case atStart => exact ⟨((rd_T37 l0 0).f0), ((rd_T37 l0 0).f1), (0), sq, sq, sq, H', ⟨Nat.le_refl _⟩, ⟨bq⟩⟩
  case round =>
   clear H'; (try clear c4b0); (try clear c4b1); (try clear hx331_0); (try clear hx331_1); (try clear hx332_0); (try clear hx332_1); (try clear p331); (try clear p332); (try clear q331); (try clear q332); obtain ⟨x3_1, x4_1, x5_1, rfl, rfl, rfl, HA, HK1, HB⟩ := hrel
   cases gk with
   | zero => exact absurd HA.out (by simp [spec_l8Body.l0])
   | succ k1 =>
    have H := HA.out; clear HA; simp only [spec_l8Body.l0] at H
    by_cases c6 : x5_1 < (l0.length : Int)
    ·rw [if_pos c6] at H
     have c6b0 := decide_eq_true c6; clear c6; have HC7 := ak H; clear H
     go_upto_region 7 with (fail)
     go_cut [56] (fun v56 wc => ∃ (kq : Nat) (x56_6 : Bool), v56 = .bool x56_6 ∧ Aside0 (spec_l8Body.j1 kq l0 x3_1 x4_1 x5_1 x56_6 = some r) ∧ Aside0 (kq ≤ k1) ∧ Aside0 (Below w.heap.size w wc))
     case first =>
      have H := HC7.out; clear HC7
      revert H; refine ig_ fun c8 H => ?_
      have c8b0 := decide_eq_true c8; clear c8
      (skip)
      obtain ⟨t335, A90, H⟩ := Option.bind_eq_some_iff.mp H
      have A9 := ak A90; clear A90
      by_cases c10 : t335 = true
      ·subst c10
       rw [if_pos rfl] at H; obtain ⟨t337, A110, H⟩ := Option.bind_eq_some_iff.mp H
       have A11 := ak A110; clear A110
       by_cases c12 : t337 = true
       ·subst c12
        rw [if_pos rfl] at H
        by_cases c13 : x5_1 > 0
        ·rw [if_pos c13] at H
         have c13b0 : decide (0 < x5_1) = true := decide_eq_true c13; clear c13; obtain ⟨ji14, hji14⟩ : ∃ j_ : Int, (wrap64 (x5_1 - 1)) = j_ := ⟨_, rfl⟩
         (rw [hji14] at H)
         have hji14w : (IntKind.i64.wrap (x5_1 - 1)) = ji14 := (i64_w _).trans hji14
         revert H; refine ig_ fun c15 H => ?_
         have c15b0 := decide_eq_true c15; clear c15
         revert H; refine ig_ fun c16 H => ?_
         have c16b0 := decide_eq_true c16; clear c16; obtain ⟨t340, A170, H⟩ := Option.bind_eq_some_iff.mp H
         have A17 := ak A170; clear A170; have H' := ak H; clear H; (try go_wp2); have n0_ := ak (below_drew1 HB.out); clear HB; have HB := n0_; clear n0_; have p334 : 0 ≤ (x5_1 : Int) := dq; have q334 : x5_1 < (l0.length : Int) := dq; obtain ⟨ad334, e334, hx334_0, hx334_1⟩ := at_T37 HR0.out x5_1 p334 q334; have hw334_1 := hx334_1; have hw334_0 := hx334_0; obtain rfl : ad331 = ad334 := (by injection e334); replace hx334_0 := hb_ HB hx334_0; replace hx334_1 := hb_ HB hx334_1; replace p334 := eq_true p334; replace q334 := eq_true q334; have p336 : 0 ≤ (x5_1 : Int) := dq; have q336 : x5_1 < (l0.length : Int) := dq; obtain ⟨ad336, e336, hx336_0, hx336_1⟩ := at_T37 HR0.out x5_1 p336 q336; have hw336_1 := hx336_1; have hw336_0 := hx336_0; obtain rfl : ad331 = ad336 := (by injection e336); replace hx336_0 := hb_ HB hx336_0; replace hx336_1 := hb_ HB hx336_1; replace p336 := eq_true p336; replace q336 := eq_true q336; have p338 : 0 ≤ ((ji14) : Int) := dq; have q338 : (ji14) < (l0.length : Int) := dq; obtain ⟨ad338, e338, hx338_0, hx338_1⟩ := at_T37 HR0.out (ji14) p338 q338; have hw338_1 := hx338_1; have hw338_0 := hx338_0; obtain rfl : ad331 = ad338 := (by injection e338); replace hx338_0 := hb_ HB hx338_0; replace hx338_1 := hb_ HB hx338_1; replace p338 := eq_true p338; replace q338 := eq_true q338; have p339 : 0 ≤ (x5_1 : Int) := dq; have q339 : x5_1 < (l0.length : Int) := dq; obtain ⟨ad339, e339, hx339_0, hx339_1⟩ := at_T37 HR0.out x5_1 p339 q339; have hw339_1 := hx339_1; have hw339_0 := hx339_0; obtain rfl : ad331 = ad339 := (by injection e339); replace hx339_0 := hb_ HB hx339_0; replace hx339_1 := hb_ HB hx339_1; replace p339 := eq_true p339; replace q339 := eq_true q339; refine start_ (n := 33) (S := fun w' => w'.cell? (ad331.add ((x5_1).toNat * 2)) = some (.int .i64 ((rd_T37 l0 x5_1).f0)) ∧ w'.cell? ⟨(ad331.add ((x5_1).toNat * 2)).block, (ad331.add ((x5_1).toNat * 2)).off + 1, none⟩ = some (.int .i64 ((rd_T37 l0 x5_1).f1)) ∧ w'.cell? (ad331.add ((x5_1).toNat * 2)) = some (.int .i64 ((rd_T37 l0 x5_1).f0)) ∧ w'.cell? ⟨(ad331.add ((x5_1).toNat * 2)).block, (ad331.add ((x5_1).toNat * 2)).off + 1, none⟩ = some (.int .i64 ((rd_T37 l0 x5_1).f1)) ∧ w'.cell? (ad331.add (((ji14)).toNat * 2)) = some (.int .i64 ((rd_T37 l0 (ji14)).f0)) ∧ w'.cell? ⟨(ad331.add (((ji14)).toNat * 2)).block, (ad331.add (((ji14)).toNat * 2)).off + 1, none⟩ = some (.int .i64 ((rd_T37 l0 (ji14)).f1)) ∧ w'.cell? (ad331.add ((x5_1).toNat * 2)) = some (.int .i64 ((rd_T37 l0 x5_1).f0)) ∧ w'.cell? ⟨(ad331.add ((x5_1).toNat * 2)).block, (ad331.add ((x5_1).toNat * 2)).off + 1, none⟩ = some (.int .i64 ((rd_T37 l0 x5_1).f1))) (ds := []) #[Z,Z,Z,Z,Z,Z,Z,Z,Z,Z,Z,Z,Z,Z,Z,Z,Z,Z,Z,Z,Z,Z,Z,Z,Z,Z,Z,Z,Z,Z,Z,Z,Z] (by kernel_rfl) rfl rfl ⟨((hb_ HB hw334_0).trans rfl), ((hb_ HB hw334_1).trans rfl), ((hb_ HB hw336_0).trans rfl), ((hb_ HB hw336_1).trans rfl), ((hb_ HB hw338_0).trans rfl), ((hb_ HB hw338_1).trans rfl), ((hb_ HB hw339_0).trans rfl), ((hb_ HB hw339_1).trans rfl)⟩ (fun hHeld => ?_); refine with_tabW spec_l8Body.tab7 spec_l8Body.bits7 (fun HT_ HW_ => ?_)
         generalize wr.drew = w18 at HB hx334_0 hx334_1 hx336_0 hx336_1 hx338_0 hx338_1 hx339_0 hx339_1 hHeld ⊢
         refine pq_ (i := 0) (N := some 24) #[Y,Z,Z,Z,Z,Z,Z,Z,Z,Z,Z,Z,Z,Z,Z,Z,Z,Z,Z,Z,Z,Z,Z,Z,Z,Z,Z,Z,Z,Z,Z,Z,Z] HT_ ?_; refine pq_ (i := 1) (N := some 25) #[Y,Y,Z,Z,Z,Z,Z,Z,Z,Z,Z,Z,Z,Z,Z,Z,Z,Z,Z,Z,Z,Z,Z,Z,Z,Z,Z,Z,Z,Z,Z,Z,Z] HT_ ?_; refine pq_ (i := 2) (N := some 26) #[Y,Y,Y,Z,Z,Z,Z,Z,Z,Z,Z,Z,Z,Z,Z,Z,Z,Z,Z,Z,Z,Z,Z,Z,Z,Z,Z,Z,Z,Z,Z,Z,Z] HT_ ?_; refine pq_ (i := 3) (N := some 27) #[Y,Y,Y,Y,Z,Z,Z,Z,Z,Z,Z,Z,Z,Z,Z,Z,Z,Z,Z,Z,Z,Z,Z,Z,Z,Z,Z,Z,Z,Z,Z,Z,Z] HT_ ?_; refine tk_ (i := 4) (N := some 28) #[Y,Y,Y,Y,Y,Z,Z,Z,Z,Z,Z,Z,Z,Z,Z,Z,Z,Z,Z,Z,Z,Z,Z,Z,Z,Z,Z,Z,Z,Z,Z,Z,Z] HT_ HW_ hHeld ?_; refine one_ (i := 5) (N := some 29) #[Y,Y,Y,Y,Y,Y,Z,Z,Z,Z,Z,Z,Z,Z,Z,Z,Z,Z,Z,Z,Z,Z,Z,Z,Z,Z,Z,Z,Z,Z,Z,Z,Z] rfl rfl (one_of HT_.out (by kernel_rfl)) (by decide) (fun K hK => ?_); refine goes_ Tryz.func48 (by kernel_rfl) rfl #[.int .i64 ((rd_T37 l0 x5_1).f0), .int .i64 0, .int .i64 12] (by rfl) rfl rfl aq ?_
         with_reducible refine (spec_l1In.calls ((rd_T37 l0 x5_1).f0) 0 12 true _ A9.out).mono ?_
         rintro e w' ⟨rfl, ⟨nd, rfl⟩⟩
         refine ⟨_, rfl, ?_⟩; refine hK.out _ _ ⟨((hb_ HB hw334_0).trans rfl), ((hb_ HB hw334_1).trans rfl), ((hb_ HB hw336_0).trans rfl), ((hb_ HB hw336_1).trans rfl), ((hb_ HB hw338_0).trans rfl), ((hb_ HB hw338_1).trans rfl), ((hb_ HB hw339_0).trans rfl), ((hb_ HB hw339_1).trans rfl)⟩ (fun hHeld => ?_); clear hK K; refine norm_ (a' := ?_) ?_ ?_; rotate_left
         ·show Act.put _ (some 29) _ = _
          simp only [Act.put, sA, sZ, sS, i64_w, i32_w]
          rfl
         refine pq_ (i := 6) (N := some 30) #[Y,Y,Y,Y,Y,Y,Y,Z,Z,Z,Z,Z,Z,Z,Z,Z,Z,Z,Z,Z,Z,Z,Z,Z,Z,Z,Z,Z,Z,Z,Z,Z,Z] HT_ ?_; refine pq_ (i := 7) (N := some 31) #[Y,Y,Y,Y,Y,Y,Y,Y,Z,Z,Z,Z,Z,Z,Z,Z,Z,Z,Z,Z,Z,Z,Z,Z,Z,Z,Z,Z,Z,Z,Z,Z,Z] HT_ ?_; refine pq_ (i := 8) (N := some 32) #[Y,Y,Y,Y,Y,Y,Y,Y,Y,Z,Z,Z,Z,Z,Z,Z,Z,Z,Z,Z,Z,Z,Z,Z,Z,Z,Z,Z,Z,Z,Z,Z,Z] HT_ ?_; refine pq_ (i := 9) (N := some 33) #[Y,Y,Y,Y,Y,Y,Y,Y,Y,Y,Z,Z,Z,Z,Z,Z,Z,Z,Z,Z,Z,Z,Z,Z,Z,Z,Z,Z,Z,Z,Z,Z,Z] HT_ ?_; refine pq_ (i := 10) (N := some 34) #[Y,Y,Y,Y,Y,Y,Y,Y,Y,Y,Y,Z,Z,Z,Z,Z,Z,Z,Z,Z,Z,Z,Z,Z,Z,Z,Z,Z,Z,Z,Z,Z,Z] HT_ ?_; refine pq_ (i := 11) (N := some 35) #[Y,Y,Y,Y,Y,Y,Y,Y,Y,Y,Y,Y,Z,Z,Z,Z,Z,Z,Z,Z,Z,Z,Z,Z,Z,Z,Z,Z,Z,Z,Z,Z,Z] HT_ ?_; refine tk_ (i := 12) (N := some 36) #[Y,Y,Y,Y,Y,Y,Y,Y,Y,Y,Y,Y,Y,Z,Z,Z,Z,Z,Z,Z,Z,Z,Z,Z,Z,Z,Z,Z,Z,Z,Z,Z,Z] HT_ HW_ hHeld ?_; refine one_ (i := 13) (N := some 37) #[Y,Y,Y,Y,Y,Y,Y,Y,Y,Y,Y,Y,Y,Y,Z,Z,Z,Z,Z,Z,Z,Z,Z,Z,Z,Z,Z,Z,Z,Z,Z,Z,Z] rfl rfl (one_of HT_.out (by kernel_rfl)) (by decide) (fun K hK => ?_); refine goes_ Tryz.func48 (by kernel_rfl) rfl #[.int .i64 ((rd_T37 l0 x5_1).f1), .int .i64 0, .int .i64 12] (by rfl) rfl rfl aq ?_
         with_reducible refine (spec_l1In.calls ((rd_T37 l0 x5_1).f1) 0 12 true _ A11.out).mono ?_
         rintro e w' ⟨rfl, ⟨nd, rfl⟩⟩
         refine ⟨_, rfl, ?_⟩; refine hK.out _ _ ⟨((hb_ HB hw334_0).trans rfl), ((hb_ HB hw334_1).trans rfl), ((hb_ HB hw336_0).trans rfl), ((hb_ HB hw336_1).trans rfl), ((hb_ HB hw338_0).trans rfl), ((hb_ HB hw338_1).trans rfl), ((hb_ HB hw339_0).trans rfl), ((hb_ HB hw339_1).trans rfl)⟩ (fun hHeld => ?_); clear hK K; refine norm_ (a' := ?_) ?_ ?_; rotate_left
         ·show Act.put _ (some 37) _ = _
          simp only [Act.put, sA, sZ, sS, i64_w, i32_w]
          rfl
         refine pq_ (i := 14) (N := some 38) #[Y,Y,Y,Y,Y,Y,Y,Y,Y,Y,Y,Y,Y,Y,Y,Z,Z,Z,Z,Z,Z,Z,Z,Z,Z,Z,Z,Z,Z,Z,Z,Z,Z] HT_ ?_; refine pq_ (i := 15) (N := some 39) #[Y,Y,Y,Y,Y,Y,Y,Y,Y,Y,Y,Y,Y,Y,Y,Y,Z,Z,Z,Z,Z,Z,Z,Z,Z,Z,Z,Z,Z,Z,Z,Z,Z] HT_ ?_; refine pq_ (i := 16) (N := some 40) #[Y,Y,Y,Y,Y,Y,Y,Y,Y,Y,Y,Y,Y,Y,Y,Y,Y,Z,Z,Z,Z,Z,Z,Z,Z,Z,Z,Z,Z,Z,Z,Z,Z] HT_ ?_; refine pq_ (i := 17) (N := some 41) #[Y,Y,Y,Y,Y,Y,Y,Y,Y,Y,Y,Y,Y,Y,Y,Y,Y,Y,Z,Z,Z,Z,Z,Z,Z,Z,Z,Z,Z,Z,Z,Z,Z] HT_ ?_; refine pq_ (i := 18) (N := some 42) #[Y,Y,Y,Y,Y,Y,Y,Y,Y,Y,Y,Y,Y,Y,Y,Y,Y,Y,Y,Z,Z,Z,Z,Z,Z,Z,Z,Z,Z,Z,Z,Z,Z] HT_ ?_; refine pq_ (i := 19) (N := some 43) #[Y,Y,Y,Y,Y,Y,Y,Y,Y,Y,Y,Y,Y,Y,Y,Y,Y,Y,Y,Y,Z,Z,Z,Z,Z,Z,Z,Z,Z,Z,Z,Z,Z] HT_ ?_; refine pq_ (i := 20) (N := some 44) #[Y,Y,Y,Y,Y,Y,Y,Y,Y,Y,Y,Y,Y,Y,Y,Y,Y,Y,Y,Y,Y,Z,Z,Z,Z,Z,Z,Z,Z,Z,Z,Z,Z] HT_ ?_; refine pq_ (i := 21) (N := some 45) #[Y,Y,Y,Y,Y,Y,Y,Y,Y,Y,Y,Y,Y,Y,Y,Y,Y,Y,Y,Y,Y,Y,Z,Z,Z,Z,Z,Z,Z,Z,Z,Z,Z] HT_ ?_; refine pq_ (i := 22) (N := some 46) #[Y,Y,Y,Y,Y,Y,Y,Y,Y,Y,Y,Y,Y,Y,Y,Y,Y,Y,Y,Y,Y,Y,Y,Z,Z,Z,Z,Z,Z,Z,Z,Z,Z] HT_ ?_; refine pq_ (i := 23) (N := some 47) #[Y,Y,Y,Y,Y,Y,Y,Y,Y,Y,Y,Y,Y,Y,Y,Y,Y,Y,Y,Y,Y,Y,Y,Y,Z,Z,Z,Z,Z,Z,Z,Z,Z] HT_ ?_; refine pq_ (i := 25) (N := some 49) #[Y,Y,Y,Y,Y,Y,Y,Y,Y,Y,Y,Y,Y,Y,Y,Y,Y,Y,Y,Y,Y,Y,Y,Y,Z,Y,Z,Z,Z,Z,Z,Z,Z] HT_ ?_; refine pq_ (i := 26) (N := some 50) #[Y,Y,Y,Y,Y,Y,Y,Y,Y,Y,Y,Y,Y,Y,Y,Y,Y,Y,Y,Y,Y,Y,Y,Y,Z,Y,Y,Z,Z,Z,Z,Z,Z] HT_ ?_; refine pq_ (i := 27) (N := some 51) #[Y,Y,Y,Y,Y,Y,Y,Y,Y,Y,Y,Y,Y,Y,Y,Y,Y,Y,Y,Y,Y,Y,Y,Y,Z,Y,Y,Y,Z,Z,Z,Z,Z] HT_ ?_; refine tk_ (i := 24) (N := some 48) #[Y,Y,Y,Y,Y,Y,Y,Y,Y,Y,Y,Y,Y,Y,Y,Y,Y,Y,Y,Y,Y,Y,Y,Y,Y,Y,Y,Y,Z,Z,Z,Z,Z] HT_ HW_ hHeld ?_; refine tk_ (i := 28) (N := some 52) #[Y,Y,Y,Y,Y,Y,Y,Y,Y,Y,Y,Y,Y,Y,Y,Y,Y,Y,Y,Y,Y,Y,Y,Y,Y,Y,Y,Y,Y,Z,Z,Z,Z] HT_ HW_ hHeld ?_; refine one_ (i := 29) (N := some 53) #[Y,Y,Y,Y,Y,Y,Y,Y,Y,Y,Y,Y,Y,Y,Y,Y,Y,Y,Y,Y,Y,Y,Y,Y,Y,Y,Y,Y,Y,Y,Z,Z,Z] rfl rfl (one_of HT_.out (by kernel_rfl)) (by decide) (fun K hK => ?_); refine goes_ Tryz.func54 (by kernel_rfl) rfl #[.agg #[.int .i64 ((rd_T37 l0 (ji14)).f0), .int .i64 ((rd_T37 l0 (ji14)).f1)], .agg #[.int .i64 ((rd_T37 l0 x5_1).f0), .int .i64 ((rd_T37 l0 x5_1).f1)]] (by rfl) rfl rfl (by (try simp only [List.map_toArray, List.map_cons, List.map_nil]); rfl) ?_
         with_reducible refine (spec_l8Before.calls ((rd_T37 l0 (ji14)).f0) ((rd_T37 l0 (ji14)).f1) ((rd_T37 l0 x5_1).f0) ((rd_T37 l0 x5_1).f1) t340 _ A17.out).mono ?_
         rintro e w19 ⟨rfl, hb⟩
         refine ⟨_, rfl, ?_⟩; have n0_ := ak (below_step bq hb); clear HB; have HB := n0_; clear n0_
         (try clear hb)
         refine hK.out _ _ ⟨((hb_ HB hw334_0).trans rfl), ((hb_ HB hw334_1).trans rfl), ((hb_ HB hw336_0).trans rfl), ((hb_ HB hw336_1).trans rfl), ((hb_ HB hw338_0).trans rfl), ((hb_ HB hw338_1).trans rfl), ((hb_ HB hw339_0).trans rfl), ((hb_ HB hw339_1).trans rfl)⟩ (fun hHeld => ?_); clear hK K; refine norm_ (a' := ?_) ?_ ?_; rotate_left
         ·show Act.put _ (some 53) _ = _
          simp only [Act.put, sA, sZ, sS, i64_w, i32_w]
          rfl
         refine pq_ (i := 30) (N := some 54) #[Y,Y,Y,Y,Y,Y,Y,Y,Y,Y,Y,Y,Y,Y,Y,Y,Y,Y,Y,Y,Y,Y,Y,Y,Y,Y,Y,Y,Y,Y,Y,Z,Z] HT_ ?_; refine pq_ (i := 31) (N := some 55) #[Y,Y,Y,Y,Y,Y,Y,Y,Y,Y,Y,Y,Y,Y,Y,Y,Y,Y,Y,Y,Y,Y,Y,Y,Y,Y,Y,Y,Y,Y,Y,Y,Z] HT_ ?_; refine pq_ (i := 32) (N := some 56) #[Y,Y,Y,Y,Y,Y,Y,Y,Y,Y,Y,Y,Y,Y,Y,Y,Y,Y,Y,Y,Y,Y,Y,Y,Y,Y,Y,Y,Y,Y,Y,Y,Y] HT_ ?_; refine done_ (done_of HT_.out (by kernel_rfl)) ?_; (try go_wp2)
         go_meet
         case rel => exact ⟨_, (!t340), sq, H', ⟨by have := HK1.out; first | omega | exact Nat.le_refl _⟩, ⟨bq⟩⟩
        ·rw [if_neg c13] at H
         have c13b0 : decide (0 < x5_1) = false := decide_eq_false c13; clear c13; have H' := ak H; clear H; (try go_wp2); have n0_ := ak (below_drew1 HB.out); clear HB; have HB := n0_; clear n0_; have p334 : 0 ≤ (x5_1 : Int) := dq; have q334 : x5_1 < (l0.length : Int) := dq; obtain ⟨ad334, e334, hx334_0, hx334_1⟩ := at_T37 HR0.out x5_1 p334 q334; have hw334_1 := hx334_1; have hw334_0 := hx334_0; obtain rfl : ad331 = ad334 := (by injection e334); replace hx334_0 := hb_ HB hx334_0; replace hx334_1 := hb_ HB hx334_1; replace p334 := eq_true p334; replace q334 := eq_true q334; have p336 : 0 ≤ (x5_1 : Int) := dq; have q336 : x5_1 < (l0.length : Int) := dq; obtain ⟨ad336, e336, hx336_0, hx336_1⟩ := at_T37 HR0.out x5_1 p336 q336; have hw336_1 := hx336_1; have hw336_0 := hx336_0; obtain rfl : ad331 = ad336 := (by injection e336); replace hx336_0 := hb_ HB hx336_0; replace hx336_1 := hb_ HB hx336_1; replace p336 := eq_true p336; replace q336 := eq_true q336; refine start_ (n := 33) (S := fun w' => w'.cell? (ad331.add ((x5_1).toNat * 2)) = some (.int .i64 ((rd_T37 l0 x5_1).f0)) ∧ w'.cell? ⟨(ad331.add ((x5_1).toNat * 2)).block, (ad331.add ((x5_1).toNat * 2)).off + 1, none⟩ = some (.int .i64 ((rd_T37 l0 x5_1).f1)) ∧ w'.cell? (ad331.add ((x5_1).toNat * 2)) = some (.int .i64 ((rd_T37 l0 x5_1).f0)) ∧ w'.cell? ⟨(ad331.add ((x5_1).toNat * 2)).block, (ad331.add ((x5_1).toNat * 2)).off + 1, none⟩ = some (.int .i64 ((rd_T37 l0 x5_1).f1))) (ds := []) #[Z,Z,Z,Z,Z,Z,Z,Z,Z,Z,Z,Z,Z,Z,Z,Z,Z,Z,Z,Z,Z,Z,Z,Z,Z,Z,Z,Z,Z,Z,Z,Z,Z] (by kernel_rfl) rfl rfl ⟨((hb_ HB hw334_0).trans rfl), ((hb_ HB hw334_1).trans rfl), ((hb_ HB hw336_0).trans rfl), ((hb_ HB hw336_1).trans rfl)⟩ (fun hHeld => ?_); refine with_tabW spec_l8Body.tab7 spec_l8Body.bits7 (fun HT_ HW_ => ?_)
         generalize wr.drew = w20 at HB hx334_0 hx334_1 hx336_0 hx336_1 hHeld ⊢
         refine pq_ (i := 0) (N := some 24) #[Y,Z,Z,Z,Z,Z,Z,Z,Z,Z,Z,Z,Z,Z,Z,Z,Z,Z,Z,Z,Z,Z,Z,Z,Z,Z,Z,Z,Z,Z,Z,Z,Z] HT_ ?_; refine pq_ (i := 1) (N := some 25) #[Y,Y,Z,Z,Z,Z,Z,Z,Z,Z,Z,Z,Z,Z,Z,Z,Z,Z,Z,Z,Z,Z,Z,Z,Z,Z,Z,Z,Z,Z,Z,Z,Z] HT_ ?_; refine pq_ (i := 2) (N := some 26) #[Y,Y,Y,Z,Z,Z,Z,Z,Z,Z,Z,Z,Z,Z,Z,Z,Z,Z,Z,Z,Z,Z,Z,Z,Z,Z,Z,Z,Z,Z,Z,Z,Z] HT_ ?_; refine pq_ (i := 3) (N := some 27) #[Y,Y,Y,Y,Z,Z,Z,Z,Z,Z,Z,Z,Z,Z,Z,Z,Z,Z,Z,Z,Z,Z,Z,Z,Z,Z,Z,Z,Z,Z,Z,Z,Z] HT_ ?_; refine tk_ (i := 4) (N := some 28) #[Y,Y,Y,Y,Y,Z,Z,Z,Z,Z,Z,Z,Z,Z,Z,Z,Z,Z,Z,Z,Z,Z,Z,Z,Z,Z,Z,Z,Z,Z,Z,Z,Z] HT_ HW_ hHeld ?_; refine one_ (i := 5) (N := some 29) #[Y,Y,Y,Y,Y,Y,Z,Z,Z,Z,Z,Z,Z,Z,Z,Z,Z,Z,Z,Z,Z,Z,Z,Z,Z,Z,Z,Z,Z,Z,Z,Z,Z] rfl rfl (one_of HT_.out (by kernel_rfl)) (by decide) (fun K hK => ?_); refine goes_ Tryz.func48 (by kernel_rfl) rfl #[.int .i64 ((rd_T37 l0 x5_1).f0), .int .i64 0, .int .i64 12] (by rfl) rfl rfl aq ?_
         with_reducible refine (spec_l1In.calls ((rd_T37 l0 x5_1).f0) 0 12 true _ A9.out).mono ?_
         rintro e w' ⟨rfl, ⟨nd, rfl⟩⟩
         refine ⟨_, rfl, ?_⟩; refine hK.out _ _ ⟨((hb_ HB hw334_0).trans rfl), ((hb_ HB hw334_1).trans rfl), ((hb_ HB hw336_0).trans rfl), ((hb_ HB hw336_1).trans rfl)⟩ (fun hHeld => ?_); clear hK K; refine norm_ (a' := ?_) ?_ ?_; rotate_left
         ·show Act.put _ (some 29) _ = _
          simp only [Act.put, sA, sZ, sS, i64_w, i32_w]
          rfl
         refine pq_ (i := 6) (N := some 30) #[Y,Y,Y,Y,Y,Y,Y,Z,Z,Z,Z,Z,Z,Z,Z,Z,Z,Z,Z,Z,Z,Z,Z,Z,Z,Z,Z,Z,Z,Z,Z,Z,Z] HT_ ?_; refine pq_ (i := 7) (N := some 31) #[Y,Y,Y,Y,Y,Y,Y,Y,Z,Z,Z,Z,Z,Z,Z,Z,Z,Z,Z,Z,Z,Z,Z,Z,Z,Z,Z,Z,Z,Z,Z,Z,Z] HT_ ?_; refine pq_ (i := 8) (N := some 32) #[Y,Y,Y,Y,Y,Y,Y,Y,Y,Z,Z,Z,Z,Z,Z,Z,Z,Z,Z,Z,Z,Z,Z,Z,Z,Z,Z,Z,Z,Z,Z,Z,Z] HT_ ?_; refine pq_ (i := 9) (N := some 33) #[Y,Y,Y,Y,Y,Y,Y,Y,Y,Y,Z,Z,Z,Z,Z,Z,Z,Z,Z,Z,Z,Z,Z,Z,Z,Z,Z,Z,Z,Z,Z,Z,Z] HT_ ?_; refine pq_ (i := 10) (N := some 34) #[Y,Y,Y,Y,Y,Y,Y,Y,Y,Y,Y,Z,Z,Z,Z,Z,Z,Z,Z,Z,Z,Z,Z,Z,Z,Z,Z,Z,Z,Z,Z,Z,Z] HT_ ?_; refine pq_ (i := 11) (N := some 35) #[Y,Y,Y,Y,Y,Y,Y,Y,Y,Y,Y,Y,Z,Z,Z,Z,Z,Z,Z,Z,Z,Z,Z,Z,Z,Z,Z,Z,Z,Z,Z,Z,Z] HT_ ?_; refine tk_ (i := 12) (N := some 36) #[Y,Y,Y,Y,Y,Y,Y,Y,Y,Y,Y,Y,Y,Z,Z,Z,Z,Z,Z,Z,Z,Z,Z,Z,Z,Z,Z,Z,Z,Z,Z,Z,Z] HT_ HW_ hHeld ?_; refine one_ (i := 13) (N := some 37) #[Y,Y,Y,Y,Y,Y,Y,Y,Y,Y,Y,Y,Y,Y,Z,Z,Z,Z,Z,Z,Z,Z,Z,Z,Z,Z,Z,Z,Z,Z,Z,Z,Z] rfl rfl (one_of HT_.out (by kernel_rfl)) (by decide) (fun K hK => ?_); refine goes_ Tryz.func48 (by kernel_rfl) rfl #[.int .i64 ((rd_T37 l0 x5_1).f1), .int .i64 0, .int .i64 12] (by rfl) rfl rfl aq ?_
         with_reducible refine (spec_l1In.calls ((rd_T37 l0 x5_1).f1) 0 12 true _ A11.out).mono ?_
         rintro e w' ⟨rfl, ⟨nd, rfl⟩⟩
         refine ⟨_, rfl, ?_⟩; refine hK.out _ _ ⟨((hb_ HB hw334_0).trans rfl), ((hb_ HB hw334_1).trans rfl), ((hb_ HB hw336_0).trans rfl), ((hb_ HB hw336_1).trans rfl)⟩ (fun hHeld => ?_); clear hK K; refine norm_ (a' := ?_) ?_ ?_; rotate_left
         ·show Act.put _ (some 37) _ = _
          simp only [Act.put, sA, sZ, sS, i64_w, i32_w]
          rfl
         refine pq_ (i := 14) (N := some 38) #[Y,Y,Y,Y,Y,Y,Y,Y,Y,Y,Y,Y,Y,Y,Y,Z,Z,Z,Z,Z,Z,Z,Z,Z,Z,Z,Z,Z,Z,Z,Z,Z,Z] HT_ ?_; refine pq_ (i := 15) (N := some 39) #[Y,Y,Y,Y,Y,Y,Y,Y,Y,Y,Y,Y,Y,Y,Y,Y,Z,Z,Z,Z,Z,Z,Z,Z,Z,Z,Z,Z,Z,Z,Z,Z,Z] HT_ ?_; refine pq_ (i := 16) (N := some 40) #[Y,Y,Y,Y,Y,Y,Y,Y,Y,Y,Y,Y,Y,Y,Y,Y,Y,Z,Z,Z,Z,Z,Z,Z,Z,Z,Z,Z,Z,Z,Z,Z,Z] HT_ ?_; refine pq_ (i := 17) (N := some 41) #[Y,Y,Y,Y,Y,Y,Y,Y,Y,Y,Y,Y,Y,Y,Y,Y,Y,Y,Z,Z,Z,Z,Z,Z,Z,Z,Z,Z,Z,Z,Z,Z,Z] HT_ ?_; refine pq_ (i := 18) (N := some 42) #[Y,Y,Y,Y,Y,Y,Y,Y,Y,Y,Y,Y,Y,Y,Y,Y,Y,Y,Y,Z,Z,Z,Z,Z,Z,Z,Z,Z,Z,Z,Z,Z,Z] HT_ ?_; refine pq_ (i := 19) (N := some 43) #[Y,Y,Y,Y,Y,Y,Y,Y,Y,Y,Y,Y,Y,Y,Y,Y,Y,Y,Y,Y,Z,Z,Z,Z,Z,Z,Z,Z,Z,Z,Z,Z,Z] HT_ ?_; refine pz_ (i := 20) (N := some 44) (v := undef) #[Y,Y,Y,Y,Y,Y,Y,Y,Y,Y,Y,Y,Y,Y,Y,Y,Y,Y,Y,Y,Y,Z,Z,Z,Z,Z,Z,Z,Z,Z,Z,Z,Z] HT_ ?_; refine pz_ (i := 21) (N := some 45) (v := undef) #[Y,Y,Y,Y,Y,Y,Y,Y,Y,Y,Y,Y,Y,Y,Y,Y,Y,Y,Y,Y,Y,Y,Z,Z,Z,Z,Z,Z,Z,Z,Z,Z,Z] HT_ ?_; refine pz_ (i := 22) (N := some 46) (v := undef) #[Y,Y,Y,Y,Y,Y,Y,Y,Y,Y,Y,Y,Y,Y,Y,Y,Y,Y,Y,Y,Y,Y,Y,Z,Z,Z,Z,Z,Z,Z,Z,Z,Z] HT_ ?_; refine pz_ (i := 23) (N := some 47) (v := undef) #[Y,Y,Y,Y,Y,Y,Y,Y,Y,Y,Y,Y,Y,Y,Y,Y,Y,Y,Y,Y,Y,Y,Y,Y,Z,Z,Z,Z,Z,Z,Z,Z,Z] HT_ ?_; refine pz_ (i := 24) (N := some 48) (v := undef) #[Y,Y,Y,Y,Y,Y,Y,Y,Y,Y,Y,Y,Y,Y,Y,Y,Y,Y,Y,Y,Y,Y,Y,Y,Y,Z,Z,Z,Z,Z,Z,Z,Z] HT_ ?_; refine pz_ (i := 25) (N := some 49) (v := undef) #[Y,Y,Y,Y,Y,Y,Y,Y,Y,Y,Y,Y,Y,Y,Y,Y,Y,Y,Y,Y,Y,Y,Y,Y,Y,Y,Z,Z,Z,Z,Z,Z,Z] HT_ ?_; refine pz_ (i := 26) (N := some 50) (v := undef) #[Y,Y,Y,Y,Y,Y,Y,Y,Y,Y,Y,Y,Y,Y,Y,Y,Y,Y,Y,Y,Y,Y,Y,Y,Y,Y,Y,Z,Z,Z,Z,Z,Z] HT_ ?_; refine pz_ (i := 27) (N := some 51) (v := undef) #[Y,Y,Y,Y,Y,Y,Y,Y,Y,Y,Y,Y,Y,Y,Y,Y,Y,Y,Y,Y,Y,Y,Y,Y,Y,Y,Y,Y,Z,Z,Z,Z,Z] HT_ ?_; refine pz_ (i := 28) (N := some 52) (v := undef) #[Y,Y,Y,Y,Y,Y,Y,Y,Y,Y,Y,Y,Y,Y,Y,Y,Y,Y,Y,Y,Y,Y,Y,Y,Y,Y,Y,Y,Y,Z,Z,Z,Z] HT_ ?_; refine pz_ (i := 29) (N := some 53) (v := undef) #[Y,Y,Y,Y,Y,Y,Y,Y,Y,Y,Y,Y,Y,Y,Y,Y,Y,Y,Y,Y,Y,Y,Y,Y,Y,Y,Y,Y,Y,Y,Z,Z,Z] HT_ ?_; refine pz_ (i := 30) (N := some 54) (v := undef) #[Y,Y,Y,Y,Y,Y,Y,Y,Y,Y,Y,Y,Y,Y,Y,Y,Y,Y,Y,Y,Y,Y,Y,Y,Y,Y,Y,Y,Y,Y,Y,Z,Z] HT_ ?_; refine pq_ (i := 31) (N := some 55) #[Y,Y,Y,Y,Y,Y,Y,Y,Y,Y,Y,Y,Y,Y,Y,Y,Y,Y,Y,Y,Y,Y,Y,Y,Y,Y,Y,Y,Y,Y,Y,Y,Z] HT_ ?_; refine pq_ (i := 32) (N := some 56) #[Y,Y,Y,Y,Y,Y,Y,Y,Y,Y,Y,Y,Y,Y,Y,Y,Y,Y,Y,Y,Y,Y,Y,Y,Y,Y,Y,Y,Y,Y,Y,Y,Y] HT_ ?_; refine done_ (done_of HT_.out (by kernel_rfl)) ?_; (try go_wp2)
         go_meet
         case rel => exact ⟨_, (false), sq, H', ⟨by have := HK1.out; first | omega | exact Nat.le_refl _⟩, ⟨bq⟩⟩
       ·replace c12 := Bool.eq_false_iff.mpr c12
        subst c12; rw [if_neg (show ¬ (false = true) by decide)] at H; have H' := ak H; clear H; (try go_wp2); have n0_ := ak (below_drew1 HB.out); clear HB; have HB := n0_; clear n0_; have p334 : 0 ≤ (x5_1 : Int) := dq; have q334 : x5_1 < (l0.length : Int) := dq; obtain ⟨ad334, e334, hx334_0, hx334_1⟩ := at_T37 HR0.out x5_1 p334 q334; have hw334_1 := hx334_1; have hw334_0 := hx334_0; obtain rfl : ad331 = ad334 := (by injection e334); replace hx334_0 := hb_ HB hx334_0; replace hx334_1 := hb_ HB hx334_1; replace p334 := eq_true p334; replace q334 := eq_true q334; have p336 : 0 ≤ (x5_1 : Int) := dq; have q336 : x5_1 < (l0.length : Int) := dq; obtain ⟨ad336, e336, hx336_0, hx336_1⟩ := at_T37 HR0.out x5_1 p336 q336; have hw336_1 := hx336_1; have hw336_0 := hx336_0; obtain rfl : ad331 = ad336 := (by injection e336); replace hx336_0 := hb_ HB hx336_0; replace hx336_1 := hb_ HB hx336_1; replace p336 := eq_true p336; replace q336 := eq_true q336; refine start_ (n := 33) (S := fun w' => w'.cell? (ad331.add ((x5_1).toNat * 2)) = some (.int .i64 ((rd_T37 l0 x5_1).f0)) ∧ w'.cell? ⟨(ad331.add ((x5_1).toNat * 2)).block, (ad331.add ((x5_1).toNat * 2)).off + 1, none⟩ = some (.int .i64 ((rd_T37 l0 x5_1).f1)) ∧ w'.cell? (ad331.add ((x5_1).toNat * 2)) = some (.int .i64 ((rd_T37 l0 x5_1).f0)) ∧ w'.cell? ⟨(ad331.add ((x5_1).toNat * 2)).block, (ad331.add ((x5_1).toNat * 2)).off + 1, none⟩ = some (.int .i64 ((rd_T37 l0 x5_1).f1))) (ds := []) #[Z,Z,Z,Z,Z,Z,Z,Z,Z,Z,Z,Z,Z,Z,Z,Z,Z,Z,Z,Z,Z,Z,Z,Z,Z,Z,Z,Z,Z,Z,Z,Z,Z] (by kernel_rfl) rfl rfl ⟨((hb_ HB hw334_0).trans rfl), ((hb_ HB hw334_1).trans rfl), ((hb_ HB hw336_0).trans rfl), ((hb_ HB hw336_1).trans rfl)⟩ (fun hHeld => ?_); refine with_tabW spec_l8Body.tab7 spec_l8Body.bits7 (fun HT_ HW_ => ?_)
        generalize wr.drew = w21 at HB hx334_0 hx334_1 hx336_0 hx336_1 hHeld ⊢
        refine pq_ (i := 0) (N := some 24) #[Y,Z,Z,Z,Z,Z,Z,Z,Z,Z,Z,Z,Z,Z,Z,Z,Z,Z,Z,Z,Z,Z,Z,Z,Z,Z,Z,Z,Z,Z,Z,Z,Z] HT_ ?_; refine pq_ (i := 1) (N := some 25) #[Y,Y,Z,Z,Z,Z,Z,Z,Z,Z,Z,Z,Z,Z,Z,Z,Z,Z,Z,Z,Z,Z,Z,Z,Z,Z,Z,Z,Z,Z,Z,Z,Z] HT_ ?_; refine pq_ (i := 2) (N := some 26) #[Y,Y,Y,Z,Z,Z,Z,Z,Z,Z,Z,Z,Z,Z,Z,Z,Z,Z,Z,Z,Z,Z,Z,Z,Z,Z,Z,Z,Z,Z,Z,Z,Z] HT_ ?_; refine pq_ (i := 3) (N := some 27) #[Y,Y,Y,Y,Z,Z,Z,Z,Z,Z,Z,Z,Z,Z,Z,Z,Z,Z,Z,Z,Z,Z,Z,Z,Z,Z,Z,Z,Z,Z,Z,Z,Z] HT_ ?_; refine tk_ (i := 4) (N := some 28) #[Y,Y,Y,Y,Y,Z,Z,Z,Z,Z,Z,Z,Z,Z,Z,Z,Z,Z,Z,Z,Z,Z,Z,Z,Z,Z,Z,Z,Z,Z,Z,Z,Z] HT_ HW_ hHeld ?_; refine one_ (i := 5) (N := some 29) #[Y,Y,Y,Y,Y,Y,Z,Z,Z,Z,Z,Z,Z,Z,Z,Z,Z,Z,Z,Z,Z,Z,Z,Z,Z,Z,Z,Z,Z,Z,Z,Z,Z] rfl rfl (one_of HT_.out (by kernel_rfl)) (by decide) (fun K hK => ?_); refine goes_ Tryz.func48 (by kernel_rfl) rfl #[.int .i64 ((rd_T37 l0 x5_1).f0), .int .i64 0, .int .i64 12] (by rfl) rfl rfl aq ?_
        with_reducible refine (spec_l1In.calls ((rd_T37 l0 x5_1).f0) 0 12 true _ A9.out).mono ?_
        rintro e w' ⟨rfl, ⟨nd, rfl⟩⟩
        refine ⟨_, rfl, ?_⟩; refine hK.out _ _ ⟨((hb_ HB hw334_0).trans rfl), ((hb_ HB hw334_1).trans rfl), ((hb_ HB hw336_0).trans rfl), ((hb_ HB hw336_1).trans rfl)⟩ (fun hHeld => ?_); clear hK K; refine norm_ (a' := ?_) ?_ ?_; rotate_left
        ·show Act.put _ (some 29) _ = _
         simp only [Act.put, sA, sZ, sS, i64_w, i32_w]
         rfl
        refine pq_ (i := 6) (N := some 30) #[Y,Y,Y,Y,Y,Y,Y,Z,Z,Z,Z,Z,Z,Z,Z,Z,Z,Z,Z,Z,Z,Z,Z,Z,Z,Z,Z,Z,Z,Z,Z,Z,Z] HT_ ?_; refine pq_ (i := 7) (N := some 31) #[Y,Y,Y,Y,Y,Y,Y,Y,Z,Z,Z,Z,Z,Z,Z,Z,Z,Z,Z,Z,Z,Z,Z,Z,Z,Z,Z,Z,Z,Z,Z,Z,Z] HT_ ?_; refine pq_ (i := 8) (N := some 32) #[Y,Y,Y,Y,Y,Y,Y,Y,Y,Z,Z,Z,Z,Z,Z,Z,Z,Z,Z,Z,Z,Z,Z,Z,Z,Z,Z,Z,Z,Z,Z,Z,Z] HT_ ?_; refine pq_ (i := 9) (N := some 33) #[Y,Y,Y,Y,Y,Y,Y,Y,Y,Y,Z,Z,Z,Z,Z,Z,Z,Z,Z,Z,Z,Z,Z,Z,Z,Z,Z,Z,Z,Z,Z,Z,Z] HT_ ?_; refine pq_ (i := 10) (N := some 34) #[Y,Y,Y,Y,Y,Y,Y,Y,Y,Y,Y,Z,Z,Z,Z,Z,Z,Z,Z,Z,Z,Z,Z,Z,Z,Z,Z,Z,Z,Z,Z,Z,Z] HT_ ?_; refine pq_ (i := 11) (N := some 35) #[Y,Y,Y,Y,Y,Y,Y,Y,Y,Y,Y,Y,Z,Z,Z,Z,Z,Z,Z,Z,Z,Z,Z,Z,Z,Z,Z,Z,Z,Z,Z,Z,Z] HT_ ?_; refine tk_ (i := 12) (N := some 36) #[Y,Y,Y,Y,Y,Y,Y,Y,Y,Y,Y,Y,Y,Z,Z,Z,Z,Z,Z,Z,Z,Z,Z,Z,Z,Z,Z,Z,Z,Z,Z,Z,Z] HT_ HW_ hHeld ?_; refine one_ (i := 13) (N := some 37) #[Y,Y,Y,Y,Y,Y,Y,Y,Y,Y,Y,Y,Y,Y,Z,Z,Z,Z,Z,Z,Z,Z,Z,Z,Z,Z,Z,Z,Z,Z,Z,Z,Z] rfl rfl (one_of HT_.out (by kernel_rfl)) (by decide) (fun K hK => ?_); refine goes_ Tryz.func48 (by kernel_rfl) rfl #[.int .i64 ((rd_T37 l0 x5_1).f1), .int .i64 0, .int .i64 12] (by rfl) rfl rfl aq ?_
        with_reducible refine (spec_l1In.calls ((rd_T37 l0 x5_1).f1) 0 12 false _ A11.out).mono ?_
        rintro e w' ⟨rfl, ⟨nd, rfl⟩⟩
        refine ⟨_, rfl, ?_⟩; refine hK.out _ _ ⟨((hb_ HB hw334_0).trans rfl), ((hb_ HB hw334_1).trans rfl), ((hb_ HB hw336_0).trans rfl), ((hb_ HB hw336_1).trans rfl)⟩ (fun hHeld => ?_); clear hK K; refine norm_ (a' := ?_) ?_ ?_; rotate_left
        ·show Act.put _ (some 37) _ = _
         simp only [Act.put, sA, sZ, sS, i64_w, i32_w]
         rfl
        refine pq_ (i := 14) (N := some 38) #[Y,Y,Y,Y,Y,Y,Y,Y,Y,Y,Y,Y,Y,Y,Y,Z,Z,Z,Z,Z,Z,Z,Z,Z,Z,Z,Z,Z,Z,Z,Z,Z,Z] HT_ ?_; refine pq_ (i := 15) (N := some 39) #[Y,Y,Y,Y,Y,Y,Y,Y,Y,Y,Y,Y,Y,Y,Y,Y,Z,Z,Z,Z,Z,Z,Z,Z,Z,Z,Z,Z,Z,Z,Z,Z,Z] HT_ ?_; refine pq_ (i := 16) (N := some 40) #[Y,Y,Y,Y,Y,Y,Y,Y,Y,Y,Y,Y,Y,Y,Y,Y,Y,Z,Z,Z,Z,Z,Z,Z,Z,Z,Z,Z,Z,Z,Z,Z,Z] HT_ ?_; refine pz_ (i := 17) (N := some 41) (v := undef) #[Y,Y,Y,Y,Y,Y,Y,Y,Y,Y,Y,Y,Y,Y,Y,Y,Y,Y,Z,Z,Z,Z,Z,Z,Z,Z,Z,Z,Z,Z,Z,Z,Z] HT_ ?_; refine pz_ (i := 18) (N := some 42) (v := undef) #[Y,Y,Y,Y,Y,Y,Y,Y,Y,Y,Y,Y,Y,Y,Y,Y,Y,Y,Y,Z,Z,Z,Z,Z,Z,Z,Z,Z,Z,Z,Z,Z,Z] HT_ ?_; refine pz_ (i := 19) (N := some 43) (v := undef) #[Y,Y,Y,Y,Y,Y,Y,Y,Y,Y,Y,Y,Y,Y,Y,Y,Y,Y,Y,Y,Z,Z,Z,Z,Z,Z,Z,Z,Z,Z,Z,Z,Z] HT_ ?_; refine pz_ (i := 20) (N := some 44) (v := undef) #[Y,Y,Y,Y,Y,Y,Y,Y,Y,Y,Y,Y,Y,Y,Y,Y,Y,Y,Y,Y,Y,Z,Z,Z,Z,Z,Z,Z,Z,Z,Z,Z,Z] HT_ ?_; refine pz_ (i := 21) (N := some 45) (v := undef) #[Y,Y,Y,Y,Y,Y,Y,Y,Y,Y,Y,Y,Y,Y,Y,Y,Y,Y,Y,Y,Y,Y,Z,Z,Z,Z,Z,Z,Z,Z,Z,Z,Z] HT_ ?_; refine pz_ (i := 22) (N := some 46) (v := undef) #[Y,Y,Y,Y,Y,Y,Y,Y,Y,Y,Y,Y,Y,Y,Y,Y,Y,Y,Y,Y,Y,Y,Y,Z,Z,Z,Z,Z,Z,Z,Z,Z,Z] HT_ ?_; refine pz_ (i := 23) (N := some 47) (v := undef) #[Y,Y,Y,Y,Y,Y,Y,Y,Y,Y,Y,Y,Y,Y,Y,Y,Y,Y,Y,Y,Y,Y,Y,Y,Z,Z,Z,Z,Z,Z,Z,Z,Z] HT_ ?_; refine pz_ (i := 24) (N := some 48) (v := undef) #[Y,Y,Y,Y,Y,Y,Y,Y,Y,Y,Y,Y,Y,Y,Y,Y,Y,Y,Y,Y,Y,Y,Y,Y,Y,Z,Z,Z,Z,Z,Z,Z,Z] HT_ ?_; refine pz_ (i := 25) (N := some 49) (v := undef) #[Y,Y,Y,Y,Y,Y,Y,Y,Y,Y,Y,Y,Y,Y,Y,Y,Y,Y,Y,Y,Y,Y,Y,Y,Y,Y,Z,Z,Z,Z,Z,Z,Z] HT_ ?_; refine pz_ (i := 26) (N := some 50) (v := undef) #[Y,Y,Y,Y,Y,Y,Y,Y,Y,Y,Y,Y,Y,Y,Y,Y,Y,Y,Y,Y,Y,Y,Y,Y,Y,Y,Y,Z,Z,Z,Z,Z,Z] HT_ ?_; refine pz_ (i := 27) (N := some 51) (v := undef) #[Y,Y,Y,Y,Y,Y,Y,Y,Y,Y,Y,Y,Y,Y,Y,Y,Y,Y,Y,Y,Y,Y,Y,Y,Y,Y,Y,Y,Z,Z,Z,Z,Z] HT_ ?_; refine pz_ (i := 28) (N := some 52) (v := undef) #[Y,Y,Y,Y,Y,Y,Y,Y,Y,Y,Y,Y,Y,Y,Y,Y,Y,Y,Y,Y,Y,Y,Y,Y,Y,Y,Y,Y,Y,Z,Z,Z,Z] HT_ ?_; refine pz_ (i := 29) (N := some 53) (v := undef) #[Y,Y,Y,Y,Y,Y,Y,Y,Y,Y,Y,Y,Y,Y,Y,Y,Y,Y,Y,Y,Y,Y,Y,Y,Y,Y,Y,Y,Y,Y,Z,Z,Z] HT_ ?_; refine pz_ (i := 30) (N := some 54) (v := undef) #[Y,Y,Y,Y,Y,Y,Y,Y,Y,Y,Y,Y,Y,Y,Y,Y,Y,Y,Y,Y,Y,Y,Y,Y,Y,Y,Y,Y,Y,Y,Y,Z,Z] HT_ ?_; refine pz_ (i := 31) (N := some 55) (v := undef) #[Y,Y,Y,Y,Y,Y,Y,Y,Y,Y,Y,Y,Y,Y,Y,Y,Y,Y,Y,Y,Y,Y,Y,Y,Y,Y,Y,Y,Y,Y,Y,Y,Z] HT_ ?_; refine pq_ (i := 32) (N := some 56) #[Y,Y,Y,Y,Y,Y,Y,Y,Y,Y,Y,Y,Y,Y,Y,Y,Y,Y,Y,Y,Y,Y,Y,Y,Y,Y,Y,Y,Y,Y,Y,Y,Y] HT_ ?_; refine done_ (done_of HT_.out (by kernel_rfl)) ?_; (try go_wp2)
        go_meet
        case rel => exact ⟨_, (true), sq, H', ⟨by have := HK1.out; first | omega | exact Nat.le_refl _⟩, ⟨bq⟩⟩
      ·replace c10 := Bool.eq_false_iff.mpr c10
       subst c10; rw [if_neg (show ¬ (false = true) by decide)] at H; have H' := ak H; clear H; (try go_wp2); have n0_ := ak (below_drew1 HB.out); clear HB; have HB := n0_; clear n0_; have p334 : 0 ≤ (x5_1 : Int) := dq; have q334 : x5_1 < (l0.length : Int) := dq; obtain ⟨ad334, e334, hx334_0, hx334_1⟩ := at_T37 HR0.out x5_1 p334 q334; have hw334_1 := hx334_1; have hw334_0 := hx334_0; obtain rfl : ad331 = ad334 := (by injection e334); replace hx334_0 := hb_ HB hx334_0; replace hx334_1 := hb_ HB hx334_1; replace p334 := eq_true p334; replace q334 := eq_true q334; refine start_ (n := 33) (S := fun w' => w'.cell? (ad331.add ((x5_1).toNat * 2)) = some (.int .i64 ((rd_T37 l0 x5_1).f0)) ∧ w'.cell? ⟨(ad331.add ((x5_1).toNat * 2)).block, (ad331.add ((x5_1).toNat * 2)).off + 1, none⟩ = some (.int .i64 ((rd_T37 l0 x5_1).f1))) (ds := []) #[Z,Z,Z,Z,Z,Z,Z,Z,Z,Z,Z,Z,Z,Z,Z,Z,Z,Z,Z,Z,Z,Z,Z,Z,Z,Z,Z,Z,Z,Z,Z,Z,Z] (by kernel_rfl) rfl rfl ⟨((hb_ HB hw334_0).trans rfl), ((hb_ HB hw334_1).trans rfl)⟩ (fun hHeld => ?_); refine with_tabW spec_l8Body.tab7 spec_l8Body.bits7 (fun HT_ HW_ => ?_)
       generalize wr.drew = w22 at HB hx334_0 hx334_1 hHeld ⊢
       refine pq_ (i := 0) (N := some 24) #[Y,Z,Z,Z,Z,Z,Z,Z,Z,Z,Z,Z,Z,Z,Z,Z,Z,Z,Z,Z,Z,Z,Z,Z,Z,Z,Z,Z,Z,Z,Z,Z,Z] HT_ ?_; refine pq_ (i := 1) (N := some 25) #[Y,Y,Z,Z,Z,Z,Z,Z,Z,Z,Z,Z,Z,Z,Z,Z,Z,Z,Z,Z,Z,Z,Z,Z,Z,Z,Z,Z,Z,Z,Z,Z,Z] HT_ ?_; refine pq_ (i := 2) (N := some 26) #[Y,Y,Y,Z,Z,Z,Z,Z,Z,Z,Z,Z,Z,Z,Z,Z,Z,Z,Z,Z,Z,Z,Z,Z,Z,Z,Z,Z,Z,Z,Z,Z,Z] HT_ ?_; refine pq_ (i := 3) (N := some 27) #[Y,Y,Y,Y,Z,Z,Z,Z,Z,Z,Z,Z,Z,Z,Z,Z,Z,Z,Z,Z,Z,Z,Z,Z,Z,Z,Z,Z,Z,Z,Z,Z,Z] HT_ ?_; refine tk_ (i := 4) (N := some 28) #[Y,Y,Y,Y,Y,Z,Z,Z,Z,Z,Z,Z,Z,Z,Z,Z,Z,Z,Z,Z,Z,Z,Z,Z,Z,Z,Z,Z,Z,Z,Z,Z,Z] HT_ HW_ hHeld ?_; refine one_ (i := 5) (N := some 29) #[Y,Y,Y,Y,Y,Y,Z,Z,Z,Z,Z,Z,Z,Z,Z,Z,Z,Z,Z,Z,Z,Z,Z,Z,Z,Z,Z,Z,Z,Z,Z,Z,Z] rfl rfl (one_of HT_.out (by kernel_rfl)) (by decide) (fun K hK => ?_); refine goes_ Tryz.func48 (by kernel_rfl) rfl #[.int .i64 ((rd_T37 l0 x5_1).f0), .int .i64 0, .int .i64 12] (by rfl) rfl rfl aq ?_
       with_reducible refine (spec_l1In.calls ((rd_T37 l0 x5_1).f0) 0 12 false _ A9.out).mono ?_
       rintro e w' ⟨rfl, ⟨nd, rfl⟩⟩
       refine ⟨_, rfl, ?_⟩; refine hK.out _ _ ⟨((hb_ HB hw334_0).trans rfl), ((hb_ HB hw334_1).trans rfl)⟩ (fun hHeld => ?_); clear hK K; refine norm_ (a' := ?_) ?_ ?_; rotate_left
       ·show Act.put _ (some 29) _ = _
        simp only [Act.put, sA, sZ, sS, i64_w, i32_w]
        rfl
       refine pq_ (i := 6) (N := some 30) #[Y,Y,Y,Y,Y,Y,Y,Z,Z,Z,Z,Z,Z,Z,Z,Z,Z,Z,Z,Z,Z,Z,Z,Z,Z,Z,Z,Z,Z,Z,Z,Z,Z] HT_ ?_; refine pq_ (i := 7) (N := some 31) #[Y,Y,Y,Y,Y,Y,Y,Y,Z,Z,Z,Z,Z,Z,Z,Z,Z,Z,Z,Z,Z,Z,Z,Z,Z,Z,Z,Z,Z,Z,Z,Z,Z] HT_ ?_; refine pz_ (i := 8) (N := some 32) (v := undef) #[Y,Y,Y,Y,Y,Y,Y,Y,Y,Z,Z,Z,Z,Z,Z,Z,Z,Z,Z,Z,Z,Z,Z,Z,Z,Z,Z,Z,Z,Z,Z,Z,Z] HT_ ?_; refine pz_ (i := 9) (N := some 33) (v := undef) #[Y,Y,Y,Y,Y,Y,Y,Y,Y,Y,Z,Z,Z,Z,Z,Z,Z,Z,Z,Z,Z,Z,Z,Z,Z,Z,Z,Z,Z,Z,Z,Z,Z] HT_ ?_; refine pz_ (i := 10) (N := some 34) (v := undef) #[Y,Y,Y,Y,Y,Y,Y,Y,Y,Y,Y,Z,Z,Z,Z,Z,Z,Z,Z,Z,Z,Z,Z,Z,Z,Z,Z,Z,Z,Z,Z,Z,Z] HT_ ?_; refine pz_ (i := 11) (N := some 35) (v := undef) #[Y,Y,Y,Y,Y,Y,Y,Y,Y,Y,Y,Y,Z,Z,Z,Z,Z,Z,Z,Z,Z,Z,Z,Z,Z,Z,Z,Z,Z,Z,Z,Z,Z] HT_ ?_; refine pz_ (i := 12) (N := some 36) (v := undef) #[Y,Y,Y,Y,Y,Y,Y,Y,Y,Y,Y,Y,Y,Z,Z,Z,Z,Z,Z,Z,Z,Z,Z,Z,Z,Z,Z,Z,Z,Z,Z,Z,Z] HT_ ?_; refine pz_ (i := 13) (N := some 37) (v := undef) #[Y,Y,Y,Y,Y,Y,Y,Y,Y,Y,Y,Y,Y,Y,Z,Z,Z,Z,Z,Z,Z,Z,Z,Z,Z,Z,Z,Z,Z,Z,Z,Z,Z] HT_ ?_; refine pz_ (i := 14) (N := some 38) (v := undef) #[Y,Y,Y,Y,Y,Y,Y,Y,Y,Y,Y,Y,Y,Y,Y,Z,Z,Z,Z,Z,Z,Z,Z,Z,Z,Z,Z,Z,Z,Z,Z,Z,Z] HT_ ?_; refine pq_ (i := 15) (N := some 39) #[Y,Y,Y,Y,Y,Y,Y,Y,Y,Y,Y,Y,Y,Y,Y,Y,Z,Z,Z,Z,Z,Z,Z,Z,Z,Z,Z,Z,Z,Z,Z,Z,Z] HT_ ?_; refine pq_ (i := 16) (N := some 40) #[Y,Y,Y,Y,Y,Y,Y,Y,Y,Y,Y,Y,Y,Y,Y,Y,Y,Z,Z,Z,Z,Z,Z,Z,Z,Z,Z,Z,Z,Z,Z,Z,Z] HT_ ?_; refine pz_ (i := 17) (N := some 41) (v := undef) #[Y,Y,Y,Y,Y,Y,Y,Y,Y,Y,Y,Y,Y,Y,Y,Y,Y,Y,Z,Z,Z,Z,Z,Z,Z,Z,Z,Z,Z,Z,Z,Z,Z] HT_ ?_; refine pz_ (i := 18) (N := some 42) (v := undef) #[Y,Y,Y,Y,Y,Y,Y,Y,Y,Y,Y,Y,Y,Y,Y,Y,Y,Y,Y,Z,Z,Z,Z,Z,Z,Z,Z,Z,Z,Z,Z,Z,Z] HT_ ?_; refine pz_ (i := 19) (N := some 43) (v := undef) #[Y,Y,Y,Y,Y,Y,Y,Y,Y,Y,Y,Y,Y,Y,Y,Y,Y,Y,Y,Y,Z,Z,Z,Z,Z,Z,Z,Z,Z,Z,Z,Z,Z] HT_ ?_; refine pz_ (i := 20) (N := some 44) (v := undef) #[Y,Y,Y,Y,Y,Y,Y,Y,Y,Y,Y,Y,Y,Y,Y,Y,Y,Y,Y,Y,Y,Z,Z,Z,Z,Z,Z,Z,Z,Z,Z,Z,Z] HT_ ?_; refine pz_ (i := 21) (N := some 45) (v := undef) #[Y,Y,Y,Y,Y,Y,Y,Y,Y,Y,Y,Y,Y,Y,Y,Y,Y,Y,Y,Y,Y,Y,Z,Z,Z,Z,Z,Z,Z,Z,Z,Z,Z] HT_ ?_; refine pz_ (i := 22) (N := some 46) (v := undef) #[Y,Y,Y,Y,Y,Y,Y,Y,Y,Y,Y,Y,Y,Y,Y,Y,Y,Y,Y,Y,Y,Y,Y,Z,Z,Z,Z,Z,Z,Z,Z,Z,Z] HT_ ?_; refine pz_ (i := 23) (N := some 47) (v := undef) #[Y,Y,Y,Y,Y,Y,Y,Y,Y,Y,Y,Y,Y,Y,Y,Y,Y,Y,Y,Y,Y,Y,Y,Y,Z,Z,Z,Z,Z,Z,Z,Z,Z] HT_ ?_; refine pz_ (i := 24) (N := some 48) (v := undef) #[Y,Y,Y,Y,Y,Y,Y,Y,Y,Y,Y,Y,Y,Y,Y,Y,Y,Y,Y,Y,Y,Y,Y,Y,Y,Z,Z,Z,Z,Z,Z,Z,Z] HT_ ?_; refine pz_ (i := 25) (N := some 49) (v := undef) #[Y,Y,Y,Y,Y,Y,Y,Y,Y,Y,Y,Y,Y,Y,Y,Y,Y,Y,Y,Y,Y,Y,Y,Y,Y,Y,Z,Z,Z,Z,Z,Z,Z] HT_ ?_; refine pz_ (i := 26) (N := some 50) (v := undef) #[Y,Y,Y,Y,Y,Y,Y,Y,Y,Y,Y,Y,Y,Y,Y,Y,Y,Y,Y,Y,Y,Y,Y,Y,Y,Y,Y,Z,Z,Z,Z,Z,Z] HT_ ?_; refine pz_ (i := 27) (N := some 51) (v := undef) #[Y,Y,Y,Y,Y,Y,Y,Y,Y,Y,Y,Y,Y,Y,Y,Y,Y,Y,Y,Y,Y,Y,Y,Y,Y,Y,Y,Y,Z,Z,Z,Z,Z] HT_ ?_; refine pz_ (i := 28) (N := some 52) (v := undef) #[Y,Y,Y,Y,Y,Y,Y,Y,Y,Y,Y,Y,Y,Y,Y,Y,Y,Y,Y,Y,Y,Y,Y,Y,Y,Y,Y,Y,Y,Z,Z,Z,Z] HT_ ?_; refine pz_ (i := 29) (N := some 53) (v := undef) #[Y,Y,Y,Y,Y,Y,Y,Y,Y,Y,Y,Y,Y,Y,Y,Y,Y,Y,Y,Y,Y,Y,Y,Y,Y,Y,Y,Y,Y,Y,Z,Z,Z] HT_ ?_; refine pz_ (i := 30) (N := some 54) (v := undef) #[Y,Y,Y,Y,Y,Y,Y,Y,Y,Y,Y,Y,Y,Y,Y,Y,Y,Y,Y,Y,Y,Y,Y,Y,Y,Y,Y,Y,Y,Y,Y,Z,Z] HT_ ?_
       refine pz_ (i := 31) (N := some 55) (v := undef) #[Y,Y,Y,Y,Y,Y,Y,Y,Y,Y,Y,Y,Y,Y,Y,Y,Y,Y,Y,Y,Y,Y,Y,Y,Y,Y,Y,Y,Y,Y,Y,Y,Z] HT_ ?_; refine pq_ (i := 32) (N := some 56) #[Y,Y,Y,Y,Y,Y,Y,Y,Y,Y,Y,Y,Y,Y,Y,Y,Y,Y,Y,Y,Y,Y,Y,Y,Y,Y,Y,Y,Y,Y,Y,Y,Y] HT_ ?_; refine done_ (done_of HT_.out (by kernel_rfl)) ?_; (try go_wp2)
       go_meet
       case rel => exact ⟨_, (true), sq, H', ⟨by have := HK1.out; first | omega | exact Nat.le_refl _⟩, ⟨bq⟩⟩
     case rest =>
      clear HC7; obtain ⟨kq, x56_6, rfl, HA, HJ6, HB⟩ := hcut
      cases kq with
      | zero => exact absurd HA.out (by simp [spec_l8Body.j1])
      | succ kj6 =>
       have H := HA.out; clear HA; simp only [spec_l8Body.j1] at H
       by_cases c23 : x56_6 = true
       ·subst c23
        rw [if_pos rfl] at H; obtain rfl := Option.some.inj H; go_wp2; go_ret; exact ⟨eq_, bq⟩
       ·replace c23 := Bool.eq_false_iff.mpr c23
        subst c23; rw [if_neg (show ¬ (false = true) by decide)] at H
        revert H; refine ig_ fun c24 H => ?_
        have c24b0 := decide_eq_true c24; clear c24
        revert H; refine ig_ fun c25 H => ?_
        have c25b0 := decide_eq_true c25; clear c25; obtain ⟨t342, A260, H⟩ := Option.bind_eq_some_iff.mp H
        have A26 := ak A260; clear A260; obtain ⟨t344, A270, H⟩ := Option.bind_eq_some_iff.mp H
        have A27 := ak A270; clear A270; have H' := ak H; clear H; have p341 : 0 ≤ (x5_1 : Int) := dq; have q341 : x5_1 < (l0.length : Int) := dq; obtain ⟨ad341, e341, hx341_0, hx341_1⟩ := at_T37 HR0.out x5_1 p341 q341; obtain rfl : ad331 = ad341 := (by injection e341); replace hx341_0 := hb_ HB hx341_0; replace hx341_1 := hb_ HB hx341_1; replace p341 := eq_true p341; replace q341 := eq_true q341
        go_wp2_with (first | ((with_reducible refine gate_callee (f := 55) rfl ?_); refine goesL_ (some 63) rfl rfl Tryz.func55 (by kernel_rfl) rfl #[.int .i64 x3_1, .int .i64 ((rd_T37 l0 x5_1).f0)] rfl aq ?_; (with_reducible refine (spec_l1Least.calls x3_1 ((rd_T37 l0 x5_1).f0) t342 _ A26.out).mono ?_); rintro e w' ⟨rfl, ⟨nd, rfl⟩⟩; refine ⟨_, rfl, ?_⟩; have p343 : 0 ≤ (x5_1 : Int) := dq; have q343 : x5_1 < (l0.length : Int) := dq; obtain ⟨ad343, e343, hx343_0, hx343_1⟩ := at_T37 HR0.out x5_1 p343 q343; obtain rfl : ad331 = ad343 := (by injection e343); replace hx343_0 := hb_ HB hx343_0; replace hx343_1 := hb_ HB hx343_1; replace p343 := eq_true p343; replace q343 := eq_true q343) | ((with_reducible refine gate_callee (f := 55) rfl ?_); refine goesL_ (some 70) rfl rfl Tryz.func55 (by kernel_rfl) rfl #[.int .i64 x4_1, .int .i64 ((rd_T37 l0 x5_1).f1)] rfl aq ?_; (with_reducible refine (spec_l1Least.calls x4_1 ((rd_T37 l0 x5_1).f1) t344 _ A27.out).mono ?_); rintro e w' ⟨rfl, ⟨nd, rfl⟩⟩; refine ⟨_, rfl, ?_⟩))
        go_roundg kj6
        case measure => have := HK1.out; have := HJ6.out; omega
        case rel => exact ⟨(t342), (t344), (wrap64 (x5_1 + 1)), sq, sq, sq, H', ⟨by have := HK1.out; have := HJ6.out; omega⟩, ⟨bq⟩⟩
    ·rw [if_neg c6] at H
     have c6b0 := decide_eq_false c6; clear c6
     by_cases c28 : x3_1 = 0
     ·rw [if_pos c28] at H
      have c28b0 : (x3_1 == 0) = true := beq_iff_eq.mpr c28; have c28b1 : (x3_1 != 0) = false := bne_eq_false_iff_eq.mpr c28; clear c28
      by_cases c29 : x4_1 = 0
      ·rw [if_pos c29] at H
       have c29b0 : (x4_1 == 0) = true := beq_iff_eq.mpr c29; have c29b1 : (x4_1 != 0) = false := bne_eq_false_iff_eq.mpr c29; clear c29; obtain ⟨t333, A300, H⟩ := Option.bind_eq_some_iff.mp H
       have A30 := ak A300; clear A300; obtain rfl := Option.some.inj H
       go_wp2_with ((go_at_call 56; (with_reducible refine (spec_l8Hangs.calls k1 _ _ l0 t333 _ ?side1 ?side2 A30.out).mono ?_); (case side1 => exact cq (Kd.C_below HR0.out HB.out)); (case side2 => exact HC0.out); rintro e w31 ⟨rfl, hb⟩; have n0_ := ak (below_step bq hb); clear HB; have HB := n0_; clear n0_; (try clear hb)))
       go_ret; exact ⟨eq_, bq⟩
      ·rw [if_neg c29] at H
       have c29b0 : (x4_1 == 0) = false := beq_eq_false_iff_ne.mpr c29; have c29b1 : (x4_1 != 0) = true := bne_iff_ne.mpr c29; obtain rfl := Option.some.inj H; go_wp2; go_ret; exact ⟨eq_, bq⟩
     ·rw [if_neg c28] at H
      have c28b0 : (x3_1 == 0) = false := beq_eq_false_iff_ne.mpr c28; have c28b1 : (x3_1 != 0) = true := bne_iff_ne.mpr c28; obtain rfl := Option.some.inj H; go_wp2; go_ret; exact ⟨eq_, bq⟩
 ·replace c3 := Bool.eq_false_iff.mpr c3
  subst c3; rw [if_neg (show ¬ (false = true) by decide)] at H; obtain rfl := Option.some.inj H
  go_enter Tryz.func24, Tryz.ntmps24
  go_wp2_with (((with_reducible refine gate_callee (f := 48) rfl ?_); refine goesL_ (some 8) rfl rfl Tryz.func48 (by kernel_rfl) rfl #[.int .i64 (l0.length : Int), .int .i64 1, .int .i64 12] rfl aq ?_; (with_reducible refine (spec_l1In.calls (l0.length : Int) 1 12 false _ A2.out).mono ?_); rintro e w' ⟨rfl, ⟨nd, rfl⟩⟩; refine ⟨_, rfl, ?_⟩))
  go_ret; exact ⟨eq_, bq⟩
end Go.Proofs.YtckhmeadflafaaaGreat.XFc
