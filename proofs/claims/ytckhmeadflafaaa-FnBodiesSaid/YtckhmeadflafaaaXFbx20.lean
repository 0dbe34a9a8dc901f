/- Functions of the program as plain Lean functions, each with the proof that the machine's call does what it says: written by a program of this session out of the translation. -/
import Derived.Test.YtckhmeadflafaaaXFbx0
import Derived.Test.YtckhmeadflafaaaXFbx6
import Derived.Test.YtckhmeadflafaaaXFbx14
namespace Go.Proofs.Ytckhmeadflafaaa.XFb
open Go.RowKit Go.Proofs.YtckhmeadflafaaaW.PrintWords Go.Proofs.YtckhmeadflafaaaW.PrintLast Go.Proofs.YtckhmeadflafaaaW.PrintMore
attribute [local go_sem] max2_int min2_int max_two min_two max_three min_three max_four min_four   -- for this text's walks alone
set_option linter.unusedVariables false
set_option linter.unusedSimpArgs false

/-! ### spec_MirrorBody: function 44 -/
def spec_MirrorBody.l0 : Nat → List (S49) → List (S49) → Int → Option ((List (S49)) × Bool)
 | 0, _, _, _ => none
 | k + 1, x0, x4, x5 => if x5 < (x0.length : Int) then (if 0 ≤ x5 then (if x4.length < 8796093022208 then (spec_MirrorBody.l0 k x0 (x4 ++ [(⟨wrap64 (-((rd_T49 x0 x5).f0)), (rd_T49 x0 x5).f1⟩ : S49)]) (wrap64 (x5 + 1))) else (none)) else (none)) else ((spec_l8Down.f k x4).bind fun t417 => (some (t417, true)))
def spec_MirrorBody.f (k : Nat) (l0 : List (S49)) : Option ((List (S49)) × Bool) := (spec_l8Body.f k l0).bind fun t405 => (if t405 = true then (spec_MirrorBody.l0 k l0 (([] : List (S49))) 0) else (some ((([] : List (S49))), false)))
theorem spec_MirrorBody.mono_l : ∀ k, (∀ y0 y1 y2, LeO (spec_MirrorBody.l0 k y0 y1 y2) (spec_MirrorBody.l0 (k + 1) y0 y1 y2))
 | 0 => fun _ _ _ r h => by simp [spec_MirrorBody.l0] at h
 | k + 1 => by
  have ih0 := spec_MirrorBody.mono_l k
  ·intro y0 y1 y2
   unfold spec_MirrorBody.l0
   repeat' first
   | (with_reducible exact ih0 _ _ _)
   | (with_reducible exact spec_l8Body.mono _ _)
   | (with_reducible exact spec_l8Down.mono _ _)
   | (with_reducible exact LeO.refl _)
   | (with_reducible exact LeO.none _)
   | (with_reducible refine LeO.ite ?_ ?_)
   | (with_reducible refine LeO.bind ?_ (fun _ => ?_))
theorem spec_MirrorBody.mono : ∀ a0 k, LeO (spec_MirrorBody.f k a0) (spec_MirrorBody.f (k + 1) a0) := by
 intro a0 k; have ih0 := spec_MirrorBody.mono_l k
 unfold spec_MirrorBody.f
 repeat' first
   | (with_reducible exact ih0 _ _ _)
   | (with_reducible exact spec_l8Body.mono _ _)
   | (with_reducible exact spec_l8Down.mono _ _)
   | (with_reducible exact LeO.refl _)
   | (with_reducible exact LeO.none _)
   | (with_reducible refine LeO.ite ?_ ?_)
   | (with_reducible refine LeO.bind ?_ (fun _ => ?_))
def spec_MirrorBody.T7 : Bool × List (List Nat × List Nat) := (true, [([], []), ([], []), ([], []), ([1, 2], [1, 2]), ([3], [3]), ([4], [4]), ([5], [5]), ([], []), ([], []), ([7, 8], [7, 8]), ([9], [9]), ([10], [10]), ([6, 11], [6, 11]), ([12], [12]), ([0, 13], [0, 13]), ([14, 14, 0, 1, 2, 3, 4, 5, 6, 7, 8, 9, 10, 11, 12, 13, 14], [0, 14])])
def spec_MirrorBody.B7 : List Nat := [0, 0, 0, 6, 14, 30, 62, 0, 0, 384, 896, 1920, 4094, 8190, 16383, 32767]
theorem spec_MirrorBody.tab7 : rtab .any (opsOf Try.f44 7) = spec_MirrorBody.T7 := by kernel_rfl
theorem spec_MirrorBody.bits7 : waitsOk spec_MirrorBody.T7.2 spec_MirrorBody.B7 = true := by kernel_rfl
set_option maxHeartbeats 8000000 in
set_option maxRecDepth 100000 in
theorem spec_MirrorBody.calls (k : Nat) (A0 : Option Addr) (c0 : Nat) (l0 : List (S49)) (r1 : List (S49)) (r2 : Bool) (w : World) (hr0 : Kd.C k49 w A0 l0.length l0) (hc0 : l0.length ≤ c0) (h : spec_MirrorBody.f k l0 = some (r1, r2)) :
  Calls Try.prog 44 #[.slice A0 l0.length c0] w fun e w' => ∃ v0_ : Value, e = .returned (.tuple #[v0_, .bool r2]) ∧ Kd.R k49 49 w' w.heap.size (fun _ => True) v0_ r1 ∧ Below w.heap.size w w' := by
 have hu49 := Try.underlying49; have HR0 := ak hr0; have HC0 := ak hc0; clear hr0 hc0; have HB := ak (Below.refl w.heap.size w); have H : ((spec_l8Body.f k l0).bind fun t405 => (if t405 = true then (spec_MirrorBody.l0 k l0 (([] : List (S49))) 0) else (some ((([] : List (S49))), false)))) = some (r1, r2) := h; clear h; obtain ⟨t405, A20, H⟩ := Option.bind_eq_some_iff.mp H
 have A2 := ak A20; clear A20
 by_cases c3 : t405 = true
 ·subst c3
  rw [if_pos rfl] at H; obtain ⟨y409, hy409⟩ : ∃ y_ : List (S49), y_ = (([] : List (S49))) := ⟨_, rfl⟩
  replace H : (spec_MirrorBody.l0 k l0 y409 0) = some (r1, r2) := by first | (rw [hy409]; with_reducible exact H) | (have H2_ := (Option.bind_some _ _).symm.trans H; rw [hy409]; with_reducible exact H2_) | (have H2_ := (Option.bind_some _ _).symm.trans H; with_reducible exact H2_) | with_reducible exact H | (rw [hy409]; exact H) | exact H
  have Ny409 := ak hy409; clear hy409; have H' := ak H; clear H
  go_enter Try.func44, Try.ntmps44
  go_wp2_with (first | ((with_reducible refine gate_callee (f := 55) rfl ?_); refine goesL_ (some 7) rfl rfl Try.func55 (by kernel_rfl) rfl #[.slice A0 l0.length c0] rfl aq ?_; (with_reducible refine (spec_l8Body.calls k _ _ l0 true _ ?side1 ?side2 A2.out).mono ?_); (case side1 => exact cq HR0.out); (case side2 => exact HC0.out); rintro e w4 ⟨rfl, hb⟩; refine ⟨_, rfl, ?_⟩; have n0_ := ak (below_step bq hb); clear HB; have HB := n0_; clear n0_; (try clear hb)) | ((with_reducible refine gate_dst (N := 10) rfl ?_); refine Kd.R_lit k49 _ 49 ?hg (N := 10) ?hd (xs := ([] : List (S49))) (inner := []) (ok := fun _ => True) (okp := fun _ => True) ?hr ?hp (fun _ hk => hk) trivial (Below.refl _ _) (Nat.le_refl _) (by simp) ?_; (case hd => rfl); (case hg => rfl); (case hr => (go_simp; done)); (case hp => exact (Reps.none _ _)); intro v410 w5 ho6 hb hg_ hnew_; clear hg_ hnew_; (rw [← Ny409.out] at ho6); have n0_ := ak (Kd.R_lower ho6 (below_size bq)); have n1_ := ak (below_step bq hb); clear HB; have HO411 := n0_; have HB := n1_; clear n0_ n1_; clear hb ho6))
  go_loopg [4, 5] k (fun kq v4 v5 w' => ∃ (x4_1 : List (S49)) (x5_1 : Int), v5 = .int .i64 x5_1 ∧ Aside0 (spec_MirrorBody.l0 kq l0 x4_1 x5_1 = some (r1, r2)) ∧ Aside0 (kq ≤ k) ∧ Aside0 (Kd.R k49 49 w' w.heap.size (fun _ => True) v4 x4_1) ∧ Aside0 (Below w.heap.size w w'))
  case atStart => exact ⟨(y409), (0), sq, H', ⟨Nat.le_refl _⟩, ⟨rq HO411⟩, ⟨bq⟩⟩
  case round =>
   clear H'; obtain ⟨x4_1, x5_1, rfl, HA, HK1, HO_4, HB⟩ := hrel
   cases gk with
   | zero => exact absurd HA.out (by simp [spec_MirrorBody.l0])
   | succ k1 =>
    have H := HA.out; clear HA; simp only [spec_MirrorBody.l0] at H
    by_cases c7 : x5_1 < (l0.length : Int)
    ·rw [if_pos c7] at H
     have c7b0 := decide_eq_true c7; clear c7
     by_cases c8 : 0 ≤ x5_1
     ·rw [if_pos c8] at H
      have c8b0 := decide_eq_true c8; clear c8
      by_cases c9 : x4_1.length < 8796093022208
      ·rw [if_pos c9] at H
       have LMc9 := ak c9; clear c9; obtain ⟨y414, hy414⟩ : ∃ y_ : List (S49), y_ = (x4_1 ++ [(⟨wrap64 (-((rd_T49 l0 x5_1).f0)), (rd_T49 l0 x5_1).f1⟩ : S49)]) := ⟨_, rfl⟩
       replace H : (spec_MirrorBody.l0 k1 l0 y414 (wrap64 (x5_1 + 1))) = some (r1, r2) := by first | (rw [hy414]; with_reducible exact H) | (have H2_ := (Option.bind_some _ _).symm.trans H; rw [hy414]; with_reducible exact H2_) | (have H2_ := (Option.bind_some _ _).symm.trans H; with_reducible exact H2_) | with_reducible exact H | (rw [hy414]; exact H) | exact H
       have Ny414 := ak hy414; clear hy414; have H' := ak H; clear H; (try go_wp2); have n0_ := ak (Kd.R_drew HO_4.out); have n1_ := ak (below_drew1 HB.out); clear HO_4; clear HB; have HO_4 := n0_; have HB := n1_; clear n0_ n1_; have p412 : 0 ≤ (x5_1 : Int) := dq; have q412 : x5_1 < (l0.length : Int) := dq; obtain ⟨ad412, e412, hx412_0, hx412_1⟩ := at_T49 HR0.out x5_1 p412 q412; have hw412_1 := hx412_1; have hw412_0 := hx412_0; cases e412; replace hx412_0 := hb_ HB hx412_0; replace hx412_1 := hb_ HB hx412_1; replace p412 := eq_true p412; replace q412 := eq_true q412; have p413 : 0 ≤ (x5_1 : Int) := dq; have q413 : x5_1 < (l0.length : Int) := dq; obtain ⟨ad413, e413, hx413_0, hx413_1⟩ := at_T49 HR0.out x5_1 p413 q413; have hw413_1 := hx413_1; have hw413_0 := hx413_0; obtain rfl : ad412 = ad413 := (by injection e413); replace hx413_0 := hb_ HB hx413_0; replace hx413_1 := hb_ HB hx413_1; replace p413 := eq_true p413; replace q413 := eq_true q413; refine start_ (n := 16) (S := fun w' => w'.cell? (ad412.add ((x5_1).toNat * 2)) = some (.int .i64 ((rd_T49 l0 x5_1).f0)) ∧ w'.cell? ⟨(ad412.add ((x5_1).toNat * 2)).block, (ad412.add ((x5_1).toNat * 2)).off + 1, none⟩ = some (.int .i64 ((rd_T49 l0 x5_1).f1)) ∧ w'.cell? (ad412.add ((x5_1).toNat * 2)) = some (.int .i64 ((rd_T49 l0 x5_1).f0)) ∧ w'.cell? ⟨(ad412.add ((x5_1).toNat * 2)).block, (ad412.add ((x5_1).toNat * 2)).off + 1, none⟩ = some (.int .i64 ((rd_T49 l0 x5_1).f1))) (ds := []) #[Z,Z,Z,Z,Z,Z,Z,Z,Z,Z,Z,Z,Z,Z,Z,Z] (by kernel_rfl) rfl rfl ⟨((hb_ HB hw412_0).trans rfl), ((hb_ HB hw412_1).trans rfl), ((hb_ HB hw413_0).trans rfl), ((hb_ HB hw413_1).trans rfl)⟩ (fun hHeld => ?_); refine with_tabW spec_MirrorBody.tab7 spec_MirrorBody.bits7 (fun HT_ HW_ => ?_)
       generalize wr.drew = w10 at HO_4 HB hx412_0 hx412_1 hx413_0 hx413_1 hHeld ⊢
       refine pq_ (i := 0) (N := some 17) #[Y,Z,Z,Z,Z,Z,Z,Z,Z,Z,Z,Z,Z,Z,Z,Z] HT_ ?_; refine pq_ (i := 1) (N := some 18) #[Y,Y,Z,Z,Z,Z,Z,Z,Z,Z,Z,Z,Z,Z,Z,Z] HT_ ?_; refine pq_ (i := 2) (N := some 19) #[Y,Y,Y,Z,Z,Z,Z,Z,Z,Z,Z,Z,Z,Z,Z,Z] HT_ ?_; refine pq_ (i := 3) (N := some 20) #[Y,Y,Y,Y,Z,Z,Z,Z,Z,Z,Z,Z,Z,Z,Z,Z] HT_ ?_; refine pq_ (i := 4) (N := some 21) #[Y,Y,Y,Y,Y,Z,Z,Z,Z,Z,Z,Z,Z,Z,Z,Z] HT_ ?_; refine pq_ (i := 7) (N := some 24) #[Y,Y,Y,Y,Y,Z,Z,Y,Z,Z,Z,Z,Z,Z,Z,Z] HT_ ?_; refine pq_ (i := 8) (N := some 25) #[Y,Y,Y,Y,Y,Z,Z,Y,Y,Z,Z,Z,Z,Z,Z,Z] HT_ ?_; refine pq_ (i := 9) (N := some 26) #[Y,Y,Y,Y,Y,Z,Z,Y,Y,Y,Z,Z,Z,Z,Z,Z] HT_ ?_; refine pq_ (i := 10) (N := some 27) #[Y,Y,Y,Y,Y,Z,Z,Y,Y,Y,Y,Z,Z,Z,Z,Z] HT_ ?_; refine tk_ (i := 5) (N := some 22) #[Y,Y,Y,Y,Y,Y,Z,Y,Y,Y,Y,Z,Z,Z,Z,Z] HT_ HW_ hHeld ?_; refine pq_ (i := 6) (N := some 23) #[Y,Y,Y,Y,Y,Y,Y,Y,Y,Y,Y,Z,Z,Z,Z,Z] HT_ ?_; refine tk_ (i := 11) (N := some 28) #[Y,Y,Y,Y,Y,Y,Y,Y,Y,Y,Y,Y,Z,Z,Z,Z] HT_ HW_ hHeld ?_; refine pq_ (i := 12) (N := some 29) #[Y,Y,Y,Y,Y,Y,Y,Y,Y,Y,Y,Y,Y,Z,Z,Z] HT_ ?_; refine one_ (i := 13) (N := some 30) #[Y,Y,Y,Y,Y,Y,Y,Y,Y,Y,Y,Y,Y,Y,Z,Z] rfl rfl (one_of HT_.out (by kernel_rfl)) (by decide) (fun K hK => ?_); refine value_ (w1 := ?_) (v := ?_) (by rfl) rfl ?_ ?_; rotate_left 2
       ·go_simp
        constructor
        ·rfl
        ·rfl
       refine hK.out _ _ ⟨(World.cell?_alloc_lt _ _ _ (World.block_lt_of_cell? _ _ (((hb_ HB hw412_0).trans rfl)))).trans (((hb_ HB hw412_0).trans rfl)), (World.cell?_alloc_lt _ _ _ (World.block_lt_of_cell? _ _ (((hb_ HB hw412_1).trans rfl)))).trans (((hb_ HB hw412_1).trans rfl)), (World.cell?_alloc_lt _ _ _ (World.block_lt_of_cell? _ _ (((hb_ HB hw413_0).trans rfl)))).trans (((hb_ HB hw413_0).trans rfl)), (World.cell?_alloc_lt _ _ _ (World.block_lt_of_cell? _ _ (((hb_ HB hw413_1).trans rfl)))).trans (((hb_ HB hw413_1).trans rfl))⟩ (fun hHeld => ?_); clear hK K; refine norm_ (a' := ?_) ?_ ?_; rotate_left
       ·show Act.put _ (some 30) _ = _
        simp only [Act.put, sA, sZ, sS, i64_w, i32_w]
        rfl
       refine one_ (i := 14) (N := some 31) #[Y,Y,Y,Y,Y,Y,Y,Y,Y,Y,Y,Y,Y,Y,Y,Z] rfl rfl (one_of HT_.out (by kernel_rfl)) (by decide) (fun K hK => ?_); refine Kd.R_append_step k49 (w0 := w) w.heap.size (by rfl) (.tmp 17) (.tmp 30) 22 49 (.agg #[(.int .i64 0), (.int .i64 0)]) 16 rfl Try.underlying22 info49 rfl (by decide) (by omega) u4 x4_1 (⟨wrap64 (-((rd_T49 l0 x5_1).f0)), (rd_T49 l0 x5_1).f1⟩ : S49) [.int .i64 (wrap64 (-((rd_T49 l0 x5_1).f0))), .int .i64 ((rd_T49 l0 x5_1).f1)] (fun _ => True) (fun _ => False) rfl rfl ?aP (fun _ hk => hk.elim) ?aF ?aO ?aB ?aS ?aL ?_
       (case aP => exact k49_mkM _ _ _ (⟨wrap64 (-((rd_T49 l0 x5_1).f0)), (rd_T49 l0 x5_1).f1⟩ : S49))
       (case aB => exact bq)
       (case aF => exact (fun _ _ => trivial))
       (case aO => exact (rq HO_4))
       (case aS => exact (below_size bq))
       (case aL => have := LMc9.out; omega)
       intro v415 w11 ho hb hg hat; rw [← Ny414.out] at ho; have n0_ := ak (hb); have n1_ := ak (ho); clear HB; clear HO_4; have HB := n0_; have HO416 := n1_; clear n0_ n1_; clear ho hb hg hat; refine hK.out _ _ ⟨((hb_ HB hw412_0).trans rfl), ((hb_ HB hw412_1).trans rfl), ((hb_ HB hw413_0).trans rfl), ((hb_ HB hw413_1).trans rfl)⟩ (fun hHeld => ?_); clear hK K; refine norm_ (a' := ?_) ?_ ?_; rotate_left
       ·show Act.put _ (some 31) _ = _
        simp only [Act.put, sA, sZ, sS, i64_w, i32_w]
        rfl
       refine pq_ (i := 15) (N := some 4) #[Y,Y,Y,Y,Y,Y,Y,Y,Y,Y,Y,Y,Y,Y,Y,Y] HT_ ?_; refine done_ (done_of HT_.out (by kernel_rfl)) ?_; (try go_wp2); go_roundg k1
       case measure => have := HK1.out; omega
       case rel => exact ⟨(y414), (wrap64 (x5_1 + 1)), sq, H', ⟨by have := HK1.out; omega⟩, ⟨rq HO416⟩, ⟨bq⟩⟩
      ·rw [if_neg c9] at H
       exact absurd H (by simp)
     ·rw [if_neg c8] at H
      exact absurd H (by simp)
    ·rw [if_neg c7] at H
     have c7b0 := decide_eq_false c7; clear c7; obtain ⟨t417, A120, H⟩ := Option.bind_eq_some_iff.mp H
     have A12 := ak A120; clear A120; simp only [Option.some.injEq, Prod.mk.injEq] at H; obtain ⟨rfl, rfl⟩ := H; obtain ⟨Ao13, co13, eo13⟩ := Kd.R_slice HO_4.out; subst eo13
     go_wp2_with (((with_reducible refine gate_callee (f := 68) rfl ?_); refine goesL_ (some 33) rfl rfl Try.func68 (by kernel_rfl) rfl #[.slice Ao13 x4_1.length co13] rfl aq ?_; (with_reducible refine (spec_l8Down.calls k1 _ _ x4_1 t417 _ ?side1 ?side2 A12.out).mono ?_); (case side1 => exact cq (Kd.R_reads' HO_4.out).2.2); (case side2 => exact (Kd.R_reads' HO_4.out).2.1); rintro e w14 ⟨v418, rfl, ho0, hb⟩; refine ⟨_, rfl, ?_⟩; have n0_ := ak (Kd.R_elder' (rq HO_4) (Kd.R_base ho0) hb); have n1_ := ak (Kd.R_lower (Kd.R_new' ho0 (Kd.R_lt (rq HO_4))) (below_size bq)); have n2_ := ak (below_step bq hb); clear HO_4; clear HB; have HO_4 := n0_; have HO419 := n1_; have HB := n2_; clear n0_ n1_ n2_; (try clear hb); (try clear ho0)))
     go_ret2
     exact ⟨_, eq_, by exact Kd.R_mono HO419.out (fun _ hk => trivial), bq⟩
 ·replace c3 := Bool.eq_false_iff.mpr c3
  subst c3; rw [if_neg (show ¬ (false = true) by decide)] at H; obtain ⟨y406, hy406⟩ : ∃ y_ : List (S49), y_ = (([] : List (S49))) := ⟨_, rfl⟩
  replace H : (some (y406, false)) = some (r1, r2) := by first | (rw [hy406]; with_reducible exact H) | (have H2_ := (Option.bind_some _ _).symm.trans H; rw [hy406]; with_reducible exact H2_) | (have H2_ := (Option.bind_some _ _).symm.trans H; with_reducible exact H2_) | with_reducible exact H | (rw [hy406]; exact H) | exact H
  have Ny406 := ak hy406; clear hy406; simp only [Option.some.injEq, Prod.mk.injEq] at H; obtain ⟨rfl, rfl⟩ := H
  go_enter Try.func44, Try.ntmps44
  go_wp2_with (first | ((with_reducible refine gate_callee (f := 55) rfl ?_); refine goesL_ (some 7) rfl rfl Try.func55 (by kernel_rfl) rfl #[.slice A0 l0.length c0] rfl aq ?_; (with_reducible refine (spec_l8Body.calls k _ _ l0 false _ ?side1 ?side2 A2.out).mono ?_); (case side1 => exact cq HR0.out); (case side2 => exact HC0.out); rintro e w15 ⟨rfl, hb⟩; refine ⟨_, rfl, ?_⟩; have n0_ := ak (below_step bq hb); clear HB; have HB := n0_; clear n0_; (try clear hb)) | ((with_reducible refine gate_dst (N := 9) rfl ?_); refine Kd.R_lit k49 _ 49 ?hg (N := 9) ?hd (xs := ([] : List (S49))) (inner := []) (ok := fun _ => True) (okp := fun _ => True) ?hr ?hp (fun _ hk => hk) trivial (Below.refl _ _) (Nat.le_refl _) (by simp) ?_; (case hd => rfl); (case hg => rfl); (case hr => (go_simp; done)); (case hp => exact (Reps.none _ _)); intro v407 w16 ho17 hb hg_ hnew_; clear hg_ hnew_; (rw [← Ny406.out] at ho17); have n0_ := ak (Kd.R_lower ho17 (below_size bq)); have n1_ := ak (below_step bq hb); clear HB; have HO408 := n0_; have HB := n1_; clear n0_ n1_; clear hb ho17))
  go_ret2
  exact ⟨_, eq_, rq HO408, bq⟩

end Go.Proofs.Ytckhmeadflafaaa.XFb
