/- Functions of the program as plain Lean functions, each with the proof that the machine's call does what it says: written by a program of this session out of the translation. -/
import Derived.Test.YtckhmeadflafaaaXFbx0
import Derived.Test.YtckhmeadflafaaaXFbx6
namespace Go.Proofs.Ytckhmeadflafaaa.XFb
open Go.RowKit Go.Proofs.YtckhmeadflafaaaW.PrintWords Go.Proofs.YtckhmeadflafaaaW.PrintLast Go.Proofs.YtckhmeadflafaaaW.PrintMore
attribute [local go_sem] max2_int min2_int max_two min_two max_three min_three max_four min_four   -- for this text's walks alone
set_option linter.unusedVariables false
set_option linter.unusedSimpArgs false

/-! ### spec_l8Turn: function 75 -/
def spec_l8Turn.l0 : Nat → List (S49) → Int → List (S49) → Int → Option ((List (S49)))
 | 0, _, _, _, _ => none
 | k + 1, x0, x1, x5, x6 => if x6 < (x0.length : Int) then (if 0 ≤ x6 then (if x5.length < 8796093022208 then (spec_l8Turn.l0 k x0 x1 (x5 ++ [(⟨wrap64 (x1 * ((rd_T49 x0 x6).f1)), wrap64 ((wrap64 (-x1)) * ((rd_T49 x0 x6).f0))⟩ : S49)]) (wrap64 (x6 + 1))) else (none)) else (none)) else ((spec_l8Down.f k x5).bind fun t451 => (some t451))
def spec_l8Turn.f (k : Nat) (l0 : List (S49)) (a1 : Int) : Option ((List (S49))) := spec_l8Turn.l0 k l0 a1 (([] : List (S49))) 0
theorem spec_l8Turn.mono_l : ∀ k, (∀ y0 y1 y2 y3, LeO (spec_l8Turn.l0 k y0 y1 y2 y3) (spec_l8Turn.l0 (k + 1) y0 y1 y2 y3))
 | 0 => fun _ _ _ _ r h => by simp [spec_l8Turn.l0] at h
 | k + 1 => by
  have ih0 := spec_l8Turn.mono_l k
  ·intro y0 y1 y2 y3
   unfold spec_l8Turn.l0
   repeat' first
   | (with_reducible exact ih0 _ _ _ _)
   | (with_reducible exact spec_l8Down.mono _ _)
   | (with_reducible exact LeO.refl _)
   | (with_reducible exact LeO.none _)
   | (with_reducible refine LeO.ite ?_ ?_)
   | (with_reducible refine LeO.bind ?_ (fun _ => ?_))
theorem spec_l8Turn.mono : ∀ a0 a1 k, LeO (spec_l8Turn.f k a0 a1) (spec_l8Turn.f (k + 1) a0 a1) := by
 intro a0 a1 k; have ih0 := spec_l8Turn.mono_l k
 unfold spec_l8Turn.f
 repeat' first
   | (with_reducible exact ih0 _ _ _ _)
   | (with_reducible exact spec_l8Down.mono _ _)
   | (with_reducible exact LeO.refl _)
   | (with_reducible exact LeO.none _)
   | (with_reducible refine LeO.ite ?_ ?_)
   | (with_reducible refine LeO.bind ?_ (fun _ => ?_))
def spec_l8Turn.T5 : Bool × List (List Nat × List Nat) := (true, [([], []), ([], []), ([], []), ([], []), ([2, 3], [2, 3]), ([4], [4]), ([5], [5]), ([1, 6], [1, 6]), ([], []), ([8], [8]), ([], []), ([], []), ([10, 11], [10, 11]), ([12], [12]), ([13], [13]), ([9, 14], [9, 14]), ([7, 15], [7, 15]), ([16], [16]), ([0, 17], [0, 17]), ([18, 18, 0, 1, 2, 3, 4, 5, 6, 7, 8, 9, 10, 11, 12, 13, 14, 15, 16, 17, 18], [0, 18])])
def spec_l8Turn.B5 : List Nat := [0, 0, 0, 0, 12, 28, 60, 126, 0, 256, 0, 0, 3072, 7168, 15360, 32512, 65534, 131070, 262143, 524287]
theorem spec_l8Turn.tab5 : rtab .any (opsOf Try.f75 5) = spec_l8Turn.T5 := by kernel_rfl
theorem spec_l8Turn.bits5 : waitsOk spec_l8Turn.T5.2 spec_l8Turn.B5 = true := by kernel_rfl
set_option maxHeartbeats 8000000 in
set_option maxRecDepth 100000 in
theorem spec_l8Turn.calls (k : Nat) (A0 : Option Addr) (c0 : Nat) (l0 : List (S49)) (a1 : Int) (r : List (S49)) (w : World) (hr0 : Kd.C k49 w A0 l0.length l0) (hc0 : l0.length ≤ c0) (h : spec_l8Turn.f k l0 a1 = some r) :
  Calls Try.prog 75 #[.slice A0 l0.length c0, .int .i64 a1] w fun e w' => ∃ v0_ : Value, e = .returned (v0_) ∧ Kd.R k49 49 w' w.heap.size (fun _ => True) v0_ r ∧ Below w.heap.size w w' := by
 have hu49 := Try.underlying49; have HR0 := ak hr0; have HC0 := ak hc0; clear hr0 hc0; have HB := ak (Below.refl w.heap.size w); have H : (spec_l8Turn.l0 k l0 a1 (([] : List (S49))) 0) = some r := h; clear h; obtain ⟨y443, hy443⟩ : ∃ y_ : List (S49), y_ = (([] : List (S49))) := ⟨_, rfl⟩
 replace H : (spec_l8Turn.l0 k l0 a1 y443 0) = some r := by first | (rw [hy443]; with_reducible exact H) | (have H2_ := (Option.bind_some _ _).symm.trans H; rw [hy443]; with_reducible exact H2_) | (have H2_ := (Option.bind_some _ _).symm.trans H; with_reducible exact H2_) | with_reducible exact H | (rw [hy443]; exact H) | exact H
 have Ny443 := ak hy443; clear hy443; have H' := ak H; clear H
 go_enter Try.func75, Try.ntmps75
 go_wp2_with (((with_reducible refine gate_dst (N := 7) rfl ?_); refine Kd.R_lit k49 _ 49 ?hg (N := 7) ?hd (xs := ([] : List (S49))) (inner := []) (ok := fun _ => True) (okp := fun _ => True) ?hr ?hp (fun _ hk => hk) trivial (Below.refl _ _) (Nat.le_refl _) (by simp) ?_; (case hd => rfl); (case hg => rfl); (case hr => (go_simp; done)); (case hp => exact (Reps.none _ _)); intro v444 w3 ho4 hb hg_ hnew_; clear hg_ hnew_; (rw [← Ny443.out] at ho4); have n0_ := ak (Kd.R_lower ho4 (below_size bq)); have n1_ := ak (below_step bq hb); clear HB; have HO445 := n0_; have HB := n1_; clear n0_ n1_; clear hb ho4))
 go_loopg [5, 6] k (fun kq v5 v6 w' => ∃ (x5_1 : List (S49)) (x6_1 : Int), v6 = .int .i64 x6_1 ∧ Aside0 (spec_l8Turn.l0 kq l0 a1 x5_1 x6_1 = some r) ∧ Aside0 (kq ≤ k) ∧ Aside0 (Kd.R k49 49 w' w.heap.size (fun _ => True) v5 x5_1) ∧ Aside0 (Below w.heap.size w w'))
 case atStart => exact ⟨(y443), (0), sq, H', ⟨Nat.le_refl _⟩, ⟨rq HO445⟩, ⟨bq⟩⟩
 case round =>
  clear H'; obtain ⟨x5_1, x6_1, rfl, HA, HK1, HO_5, HB⟩ := hrel
  cases gk with
  | zero => exact absurd HA.out (by simp [spec_l8Turn.l0])
  | succ k1 =>
   have H := HA.out; clear HA; simp only [spec_l8Turn.l0] at H
   by_cases c5 : x6_1 < (l0.length : Int)
   ·rw [if_pos c5] at H
    have c5b0 := decide_eq_true c5; clear c5
    by_cases c6 : 0 ≤ x6_1
    ·rw [if_pos c6] at H
     have c6b0 := decide_eq_true c6; clear c6
     by_cases c7 : x5_1.length < 8796093022208
     ·rw [if_pos c7] at H
      have LMc7 := ak c7; clear c7; obtain ⟨y448, hy448⟩ : ∃ y_ : List (S49), y_ = (x5_1 ++ [(⟨wrap64 (a1 * ((rd_T49 l0 x6_1).f1)), wrap64 ((wrap64 (-a1)) * ((rd_T49 l0 x6_1).f0))⟩ : S49)]) := ⟨_, rfl⟩
      replace H : (spec_l8Turn.l0 k1 l0 a1 y448 (wrap64 (x6_1 + 1))) = some r := by first | (rw [hy448]; with_reducible exact H) | (have H2_ := (Option.bind_some _ _).symm.trans H; rw [hy448]; with_reducible exact H2_) | (have H2_ := (Option.bind_some _ _).symm.trans H; with_reducible exact H2_) | with_reducible exact H | (rw [hy448]; exact H) | exact H
      have Ny448 := ak hy448; clear hy448; have H' := ak H; clear H; (try go_wp2); have n0_ := ak (Kd.R_drew HO_5.out); have n1_ := ak (below_drew1 HB.out); clear HO_5; clear HB; have HO_5 := n0_; have HB := n1_; clear n0_ n1_; have p446 : 0 ≤ (x6_1 : Int) := dq; have q446 : x6_1 < (l0.length : Int) := dq; obtain ⟨ad446, e446, hx446_0, hx446_1⟩ := at_T49 HR0.out x6_1 p446 q446; have hw446_1 := hx446_1; have hw446_0 := hx446_0; cases e446; replace hx446_0 := hb_ HB hx446_0; replace hx446_1 := hb_ HB hx446_1; replace p446 := eq_true p446; replace q446 := eq_true q446; have p447 : 0 ≤ (x6_1 : Int) := dq; have q447 : x6_1 < (l0.length : Int) := dq; obtain ⟨ad447, e447, hx447_0, hx447_1⟩ := at_T49 HR0.out x6_1 p447 q447; have hw447_1 := hx447_1; have hw447_0 := hx447_0; obtain rfl : ad446 = ad447 := (by injection e447); replace hx447_0 := hb_ HB hx447_0; replace hx447_1 := hb_ HB hx447_1; replace p447 := eq_true p447; replace q447 := eq_true q447; refine start_ (n := 20) (S := fun w' => w'.cell? (ad446.add ((x6_1).toNat * 2)) = some (.int .i64 ((rd_T49 l0 x6_1).f0)) ∧ w'.cell? ⟨(ad446.add ((x6_1).toNat * 2)).block, (ad446.add ((x6_1).toNat * 2)).off + 1, none⟩ = some (.int .i64 ((rd_T49 l0 x6_1).f1)) ∧ w'.cell? (ad446.add ((x6_1).toNat * 2)) = some (.int .i64 ((rd_T49 l0 x6_1).f0)) ∧ w'.cell? ⟨(ad446.add ((x6_1).toNat * 2)).block, (ad446.add ((x6_1).toNat * 2)).off + 1, none⟩ = some (.int .i64 ((rd_T49 l0 x6_1).f1))) (ds := []) #[Z,Z,Z,Z,Z,Z,Z,Z,Z,Z,Z,Z,Z,Z,Z,Z,Z,Z,Z,Z] (by kernel_rfl) rfl rfl ⟨((hb_ HB hw446_0).trans rfl), ((hb_ HB hw446_1).trans rfl), ((hb_ HB hw447_0).trans rfl), ((hb_ HB hw447_1).trans rfl)⟩ (fun hHeld => ?_); refine with_tabW spec_l8Turn.tab5 spec_l8Turn.bits5 (fun HT_ HW_ => ?_)
      generalize wr.drew = w8 at HO_5 HB hx446_0 hx446_1 hx447_0 hx447_1 hHeld ⊢
      refine pq_ (i := 0) (N := some 14) #[Y,Z,Z,Z,Z,Z,Z,Z,Z,Z,Z,Z,Z,Z,Z,Z,Z,Z,Z,Z] HT_ ?_; refine pq_ (i := 1) (N := some 15) #[Y,Y,Z,Z,Z,Z,Z,Z,Z,Z,Z,Z,Z,Z,Z,Z,Z,Z,Z,Z] HT_ ?_; refine pq_ (i := 2) (N := some 16) #[Y,Y,Y,Z,Z,Z,Z,Z,Z,Z,Z,Z,Z,Z,Z,Z,Z,Z,Z,Z] HT_ ?_; refine pq_ (i := 3) (N := some 17) #[Y,Y,Y,Y,Z,Z,Z,Z,Z,Z,Z,Z,Z,Z,Z,Z,Z,Z,Z,Z] HT_ ?_; refine pq_ (i := 4) (N := some 18) #[Y,Y,Y,Y,Y,Z,Z,Z,Z,Z,Z,Z,Z,Z,Z,Z,Z,Z,Z,Z] HT_ ?_; refine pq_ (i := 5) (N := some 19) #[Y,Y,Y,Y,Y,Y,Z,Z,Z,Z,Z,Z,Z,Z,Z,Z,Z,Z,Z,Z] HT_ ?_; refine pq_ (i := 8) (N := some 22) #[Y,Y,Y,Y,Y,Y,Z,Z,Y,Z,Z,Z,Z,Z,Z,Z,Z,Z,Z,Z] HT_ ?_; refine pq_ (i := 9) (N := some 23) #[Y,Y,Y,Y,Y,Y,Z,Z,Y,Y,Z,Z,Z,Z,Z,Z,Z,Z,Z,Z] HT_ ?_; refine pq_ (i := 10) (N := some 24) #[Y,Y,Y,Y,Y,Y,Z,Z,Y,Y,Y,Z,Z,Z,Z,Z,Z,Z,Z,Z] HT_ ?_; refine pq_ (i := 11) (N := some 25) #[Y,Y,Y,Y,Y,Y,Z,Z,Y,Y,Y,Y,Z,Z,Z,Z,Z,Z,Z,Z] HT_ ?_; refine pq_ (i := 12) (N := some 26) #[Y,Y,Y,Y,Y,Y,Z,Z,Y,Y,Y,Y,Y,Z,Z,Z,Z,Z,Z,Z] HT_ ?_; refine pq_ (i := 13) (N := some 27) #[Y,Y,Y,Y,Y,Y,Z,Z,Y,Y,Y,Y,Y,Y,Z,Z,Z,Z,Z,Z] HT_ ?_; refine tk_ (i := 6) (N := some 20) #[Y,Y,Y,Y,Y,Y,Y,Z,Y,Y,Y,Y,Y,Y,Z,Z,Z,Z,Z,Z] HT_ HW_ hHeld ?_; refine pq_ (i := 7) (N := some 21) #[Y,Y,Y,Y,Y,Y,Y,Y,Y,Y,Y,Y,Y,Y,Z,Z,Z,Z,Z,Z] HT_ ?_; refine tk_ (i := 14) (N := some 28) #[Y,Y,Y,Y,Y,Y,Y,Y,Y,Y,Y,Y,Y,Y,Y,Z,Z,Z,Z,Z] HT_ HW_ hHeld ?_; refine pq_ (i := 15) (N := some 29) #[Y,Y,Y,Y,Y,Y,Y,Y,Y,Y,Y,Y,Y,Y,Y,Y,Z,Z,Z,Z] HT_ ?_; refine pq_ (i := 16) (N := some 30) #[Y,Y,Y,Y,Y,Y,Y,Y,Y,Y,Y,Y,Y,Y,Y,Y,Y,Z,Z,Z] HT_ ?_; refine one_ (i := 17) (N := some 31) #[Y,Y,Y,Y,Y,Y,Y,Y,Y,Y,Y,Y,Y,Y,Y,Y,Y,Y,Z,Z] rfl rfl (one_of HT_.out (by kernel_rfl)) (by decide) (fun K hK => ?_); refine value_ (w1 := ?_) (v := ?_) (by rfl) rfl ?_ ?_; rotate_left 2
      ·go_simp
       constructor
       ·rfl
       ·rfl
      refine hK.out _ _ ⟨(World.cell?_alloc_lt _ _ _ (World.block_lt_of_cell? _ _ (((hb_ HB hw446_0).trans rfl)))).trans (((hb_ HB hw446_0).trans rfl)), (World.cell?_alloc_lt _ _ _ (World.block_lt_of_cell? _ _ (((hb_ HB hw446_1).trans rfl)))).trans (((hb_ HB hw446_1).trans rfl)), (World.cell?_alloc_lt _ _ _ (World.block_lt_of_cell? _ _ (((hb_ HB hw447_0).trans rfl)))).trans (((hb_ HB hw447_0).trans rfl)), (World.cell?_alloc_lt _ _ _ (World.block_lt_of_cell? _ _ (((hb_ HB hw447_1).trans rfl)))).trans (((hb_ HB hw447_1).trans rfl))⟩ (fun hHeld => ?_); clear hK K; refine norm_ (a' := ?_) ?_ ?_; rotate_left
      ·show Act.put _ (some 31) _ = _
       simp only [Act.put, sA, sZ, sS, i64_w, i32_w]
       rfl
      refine one_ (i := 18) (N := some 32) #[Y,Y,Y,Y,Y,Y,Y,Y,Y,Y,Y,Y,Y,Y,Y,Y,Y,Y,Y,Z] rfl rfl (one_of HT_.out (by kernel_rfl)) (by decide) (fun K hK => ?_); refine Kd.R_append_step k49 (w0 := w) w.heap.size (by rfl) (.tmp 14) (.tmp 31) 22 49 (.agg #[(.int .i64 0), (.int .i64 0)]) 16 rfl Try.underlying22 info49 rfl (by decide) (by omega) u5 x5_1 (⟨wrap64 (a1 * ((rd_T49 l0 x6_1).f1)), wrap64 ((wrap64 (-a1)) * ((rd_T49 l0 x6_1).f0))⟩ : S49) [.int .i64 (wrap64 (a1 * ((rd_T49 l0 x6_1).f1))), .int .i64 (wrap64 ((wrap64 (-a1)) * ((rd_T49 l0 x6_1).f0)))] (fun _ => True) (fun _ => False) rfl rfl ?aP (fun _ hk => hk.elim) ?aF ?aO ?aB ?aS ?aL ?_
      (case aP => exact k49_mkM _ _ _ (⟨wrap64 (a1 * ((rd_T49 l0 x6_1).f1)), wrap64 ((wrap64 (-a1)) * ((rd_T49 l0 x6_1).f0))⟩ : S49))
      (case aB => exact bq)
      (case aF => exact (fun _ _ => trivial))
      (case aO => exact (rq HO_5))
      (case aS => exact (below_size bq))
      (case aL => have := LMc7.out; omega)
      intro v449 w9 ho hb hg hat; rw [← Ny448.out] at ho; have n0_ := ak (hb); have n1_ := ak (ho); clear HB; clear HO_5; have HB := n0_; have HO450 := n1_; clear n0_ n1_; clear ho hb hg hat; refine hK.out _ _ ⟨((hb_ HB hw446_0).trans rfl), ((hb_ HB hw446_1).trans rfl), ((hb_ HB hw447_0).trans rfl), ((hb_ HB hw447_1).trans rfl)⟩ (fun hHeld => ?_); clear hK K; refine norm_ (a' := ?_) ?_ ?_; rotate_left
      ·show Act.put _ (some 32) _ = _
       simp only [Act.put, sA, sZ, sS, i64_w, i32_w]
       rfl
      refine pq_ (i := 19) (N := some 5) #[Y,Y,Y,Y,Y,Y,Y,Y,Y,Y,Y,Y,Y,Y,Y,Y,Y,Y,Y,Y] HT_ ?_; refine done_ (done_of HT_.out (by kernel_rfl)) ?_; (try go_wp2); go_roundg k1
      case measure => have := HK1.out; omega
      case rel => exact ⟨(y448), (wrap64 (x6_1 + 1)), sq, H', ⟨by have := HK1.out; omega⟩, ⟨rq HO450⟩, ⟨bq⟩⟩
     ·rw [if_neg c7] at H
      exact absurd H (by simp)
    ·rw [if_neg c6] at H
     exact absurd H (by simp)
   ·rw [if_neg c5] at H
    have c5b0 := decide_eq_false c5; clear c5; obtain ⟨t451, A100, H⟩ := Option.bind_eq_some_iff.mp H
    have A10 := ak A100; clear A100; obtain rfl := Option.some.inj H; obtain ⟨Ao11, co11, eo11⟩ := Kd.R_slice HO_5.out; subst eo11
    go_wp2_with (((with_reducible refine gate_callee (f := 68) rfl ?_); refine goesL_ (some 34) rfl rfl Try.func68 (by kernel_rfl) rfl #[.slice Ao11 x5_1.length co11] rfl aq ?_; (with_reducible refine (spec_l8Down.calls k1 _ _ x5_1 t451 _ ?side1 ?side2 A10.out).mono ?_); (case side1 => exact cq (Kd.R_reads' HO_5.out).2.2); (case side2 => exact (Kd.R_reads' HO_5.out).2.1); rintro e w12 ⟨v452, rfl, ho0, hb⟩; refine ⟨_, rfl, ?_⟩; have n0_ := ak (Kd.R_elder' (rq HO_5) (Kd.R_base ho0) hb); have n1_ := ak (Kd.R_lower (Kd.R_new' ho0 (Kd.R_lt (rq HO_5))) (below_size bq)); have n2_ := ak (below_step bq hb); clear HO_5; clear HB; have HO_5 := n0_; have HO453 := n1_; have HB := n2_; clear n0_ n1_ n2_; (try clear hb); (try clear ho0)))
    go_ret; exact ⟨_, eq_, by exact Kd.R_mono HO453.out (fun _ hk => trivial), bq⟩

end Go.Proofs.Ytckhmeadflafaaa.XFb
