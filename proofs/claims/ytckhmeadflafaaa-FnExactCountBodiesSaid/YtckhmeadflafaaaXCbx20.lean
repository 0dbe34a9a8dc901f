/- Functions of the program as plain Lean functions, each with the proof that the machine's call does what it says: written by a program of this session out of the translation. -/
import Derived.Test.YtckhmeadflafaaaXCbx0
import Derived.Test.YtckhmeadflafaaaXCbx18
import Derived.Test.YtckhmeadflafaaaXCbx19
namespace Go.Proofs.Ytckhmeadflafaaa.XCb
open Go.RowKit Go.Proofs.YtckhmeadflafaaaW.PrintWords Go.Proofs.YtckhmeadflafaaaW.PrintLast Go.Proofs.YtckhmeadflafaaaW.PrintMore
attribute [local go_sem] max2_int min2_int max_two min_two max_three min_three max_four min_four   -- for this text's walks alone
set_option linter.unusedVariables false
set_option linter.unusedSimpArgs false

/-! ### impl_withCell: function 80 -/
def impl_withCell.f (k : Nat) (l0 : List (S49)) (a1_0 : Int) (a1_1 : Int) : Option ((List (S49))) := (slices_Clone.f l0).bind fun t326 => ((some (([(⟨a1_0, a1_1⟩ : S49)] : List (S49)) : List (S49))).bind fun y329 => (if t326.length + y329.length < 8796093022208 then ((impl_put.f k (t326 ++ y329)).bind fun t335 => (some t335)) else (none)))
theorem impl_withCell.mono : ∀ a0 a1 a2 k, LeO (impl_withCell.f k a0 a1 a2) (impl_withCell.f (k + 1) a0 a1 a2) := by
 intro a0 a1 a2 k
 unfold impl_withCell.f
 repeat' first
   | (with_reducible exact impl_put.mono _ _)
   | (with_reducible exact LeO.refl _)
   | (with_reducible exact LeO.none _)
   | (with_reducible refine LeO.ite ?_ ?_)
   | (with_reducible refine LeO.bind ?_ (fun _ => ?_))
set_option maxHeartbeats 8000000 in
set_option maxRecDepth 100000 in
theorem impl_withCell.calls (k : Nat) (A0 : Option Addr) (c0 : Nat) (l0 : List (S49)) (a1_0 : Int) (a1_1 : Int) (r : List (S49)) (w : World) (hr0 : Kd.C k49 w A0 l0.length l0) (hc0 : l0.length ≤ c0) (h : impl_withCell.f k l0 a1_0 a1_1 = some r) :
  Calls Try.prog 80 #[.slice A0 l0.length c0, .agg #[.int .i64 a1_0, .int .i64 a1_1]] w fun e w' => ∃ v0_ : Value, e = .returned (v0_) ∧ Kd.R k49 49 w' w.heap.size (fun _ => True) v0_ r ∧ Below w.heap.size w w' := by
 have hu49 := Try.underlying49; have HR0 := ak hr0; have HC0 := ak hc0; clear hr0 hc0; have HB := ak (Below.refl w.heap.size w); have H : ((slices_Clone.f l0).bind fun t326 => ((some (([(⟨a1_0, a1_1⟩ : S49)] : List (S49)) : List (S49))).bind fun y329 => (if t326.length + y329.length < 8796093022208 then ((impl_put.f k (t326 ++ y329)).bind fun t335 => (some t335)) else (none)))) = some r := h; clear h; obtain ⟨t326, A30, H⟩ := Option.bind_eq_some_iff.mp H
 (try dsimp only at H)
 have A3 := ak A30; clear A30; obtain ⟨y329, hy329⟩ : ∃ y_ : List (S49), y_ = (([(⟨a1_0, a1_1⟩ : S49)] : List (S49))) := ⟨_, rfl⟩
 replace H : (if t326.length + y329.length < 8796093022208 then ((impl_put.f k (t326 ++ y329)).bind fun t335 => (some t335)) else (none)) = some r := by first | (rw [hy329]; with_reducible exact H) | (have H2_ := (Option.bind_some _ _).symm.trans H; rw [hy329]; with_reducible exact H2_) | (have H2_ := (Option.bind_some _ _).symm.trans H; with_reducible exact H2_) | with_reducible exact H | (rw [hy329]; exact H) | exact H
 have Ny329 := ak hy329; clear hy329
 by_cases c4 : t326.length + y329.length < 8796093022208
 ·rw [if_pos c4] at H
  have LMc4 := ak c4; clear c4; obtain ⟨y332, hy332⟩ : ∃ y_ : List (S49), y_ = (t326 ++ y329) := ⟨_, rfl⟩
  replace H : ((impl_put.f k y332).bind fun t335 => (some t335)) = some r := by first | (rw [hy332]; with_reducible exact H) | (have H2_ := (Option.bind_some _ _).symm.trans H; rw [hy332]; with_reducible exact H2_) | (have H2_ := (Option.bind_some _ _).symm.trans H; with_reducible exact H2_) | with_reducible exact H | (rw [hy332]; exact H) | exact H
  have Ny332 := ak hy332; clear hy332; obtain ⟨t335, A50, H⟩ := Option.bind_eq_some_iff.mp H
  (try dsimp only at H)
  have A5 := ak A50; clear A50; obtain rfl := Option.some.inj H
  go_enter Try.func80, Try.ntmps80
  try go_wp2_with (first | ((with_reducible refine gate_dst (N := 3) rfl ?_); refine box_event ?hg (N := 3) ?hd (cs := #[.int .i64 a1_0, .int .i64 a1_1]) (t := 49) ?hr ?_; (case hd => rfl); (case hg => rfl); (case hr => first | (go_simp; done) | (go_simp; rfl)); intro gb325 hg w6 hbox hb; have n0_ := ak (below_step bq hb); have n1_ := ak (hbox); have n2_ := ak ((by rw [hg]; exact (below_size bq) : w.heap.size ≤ gb325)); have n3_ := ak ((by rw [hg]; exact (below_size bq) : w.heap.size ≤ gb325)); clear HB; have HB := n0_; have BK325 := n1_; have GW325 := n2_; have GE325 := n3_; clear n0_ n1_ n2_ n3_; clear hb hbox hg))
  have n0_ := ak (blk_drew BK325.out); have n1_ := ak (below_drew1 HB.out); clear BK325; clear HB; have BK325 := n0_; have HB := n1_; clear n0_ n1_; refine start_ (n := 7) (S := fun w' => w'.cell? ⟨gb325, 0, none⟩ = some (.int .i64 a1_0) ∧ w'.cell? ⟨gb325, 1, none⟩ = some (.int .i64 a1_1)) (ds := []) #[Z,Z,Z,Z,Z,Z,Z] (by kernel_rfl) rfl rfl ⟨(blk_cell BK325.out 0).trans rfl, (blk_cell BK325.out 1).trans rfl⟩ (fun hHeld => ?_)
  generalize w6.drew = w7 at BK325 HB hHeld ⊢
  refine pure_ (i := 0) (N := some 5) (v := ?_) (a' := ?_) #[Y,Z,Z,Z,Z,Z,Z] rfl rfl (by kernel_rfl) (fun _ _ _ h => h) (Or.inl ⟨by rfl, ?_⟩) ?_ ?_; rotate_left
  ·intro w'
   go_simp
   with_reducible rfl
  rotate_left
  ·simp only [Act.put, sA, sZ, sS, i64_w, i32_w]
   rfl
  refine take_ (i := 2) (N := some 7) (v := ?_) (a' := ?_) #[Y,Z,Y,Z,Z,Z,Z] rfl rfl (by kernel_rfl) (fun _ _ _ h => h) (Or.inl ⟨by rfl, ?_⟩) hHeld ?_ ?_; rotate_left
  ·rintro w' ⟨s0, s1⟩
   go_simp
   with_reducible rfl
  rotate_left
  ·simp only [Act.put, sA, sZ, sS, i64_w, i32_w]
   rfl
  refine join_ (σ := Value × Value) 3 #[Y,Y,Y,Y,Z,Z,Z] (fun s_ => [(6, s_.1), (8, s_.2)]) (fun s_ w' => (w'.cell? ⟨gb325, 0, none⟩ = some (.int .i64 a1_0) ∧ w'.cell? ⟨gb325, 1, none⟩ = some (.int .i64 a1_1)) ∧ (Kd.R k49 49 w' w.heap.size (fun k_ => some k_ ≠ (s_.2 : Value).ownBlock ∧ k_ ≠ gb325) s_.1 t326) ∧ (Kd.R k49 49 w' w.heap.size (fun k_ => some k_ ≠ (s_.1 : Value).ownBlock ∧ k_ ≠ gb325) s_.2 y329) ∧ (w'.heap[gb325]? = some (.cells #[.int .i64 a1_0, .int .i64 a1_1] 49 (0, 0))) ∧ (Below w.heap.size w w')) ?_ ?_; rotate_left
  ·intro hCont
   refine two_ (i := 1) (j := 3) (Ni := some 6) (Nj := some 8) #[Y,Y,Y,Z,Z,Z,Z] #[Y,Z,Y,Y,Z,Z,Z] rfl rfl rfl rfl (by kernel_rfl) (by decide) (by decide) (fun K hK => ?_) (fun K hK => ?_)
   ·skip
    refine goes_ Try.func70 (by kernel_rfl) rfl #[.slice A0 l0.length c0] (by rfl) rfl rfl aq ?_
    with_reducible refine (slices_Clone.calls _ _ l0 t326 _ ?side1 ?side2 A3.out).mono ?_
    (case side1 => exact cq (Kd.C_below HR0.out HB.out))
    (case side2 => exact HC0.out)
    rintro e w8 ⟨v327, rfl, ho0, hb⟩
    refine ⟨_, rfl, ?_⟩; have n0_ := ak (Kd.R_lower (Kd.R_newB ho0 (g := gb325) (o := .cells #[.int .i64 a1_0, .int .i64 a1_1] 49 (0, 0)) (uq BK325)) (below_size bs)); have n1_ := ak (blk_below (g := gb325) (o := .cells #[.int .i64 a1_0, .int .i64 a1_1] 49 (0, 0)) (uq BK325) hb); have n2_ := ak (below_step bs hb); clear BK325; clear HB; have HO328 := n0_; have BK325 := n1_; have HB := n2_; clear n0_ n1_ n2_
    (try clear hb)
    (try clear hb2)
    (try clear hk)
    (try clear hi)
    (try clear ho0)
    refine hK.out _ _ ⟨(blk_cell BK325.out 0).trans rfl, (blk_cell BK325.out 1).trans rfl⟩ (fun hHeld => ?_); clear hK K; refine norm_ (a' := ?_) ?_ ?_; rotate_left
    ·show Act.put _ (some 6) _ = _
     simp only [Act.put, sA, sZ, sS, i64_w, i32_w]
     rfl
    refine one_ (i := 3) (N := some 8) #[Y,Y,Y,Y,Z,Z,Z] rfl rfl (by kernel_rfl) (by decide) (fun K hK => ?_); refine Kd.R_lit_step k49 _ 49 ?hg (N := 8) ?hd (xs := ([(⟨a1_0, a1_1⟩ : S49)] : List (S49))) (inner := [.int .i64 a1_0, .int .i64 a1_1]) (ok := fun _ => True) (okp := fun _ => True) ?hr ?hp (fun _ hk => hk) trivial (Below.refl _ _) (Nat.le_refl _) (by simp) ?_; (case hd => rfl); (case hg => rfl); (case hr => first | (go_simp; done) | (go_simp; rfl)); (case hp => exact (Reps.c2 (show Kd.M k49 _ _ _ (⟨a1_0, a1_1⟩ : S49) [.int .i64 a1_0, .int .i64 a1_1] from (k49_mkM _ _ _ (⟨a1_0, a1_1⟩ : S49) )) (Reps.none _ _))); intro v330 w9 ho10 hb hg_ hnew_; clear hg_ hnew_
    (first | rw [← Ny329.out] at ho10 | (simp only [Int.reduceToNat] at ho10; rw [← Ny329.out] at ho10))
    have n0_ := ak (Kd.R_elder' (rq HO328) (Kd.R_base ho10) hb); have n1_ := ak (Kd.R_lower (Kd.R_newB (Kd.R_new' ho10 (Kd.R_lt (rq HO328))) (g := gb325) (o := .cells #[.int .i64 a1_0, .int .i64 a1_1] 49 (0, 0)) (uq BK325)) (below_size bs)); have n2_ := ak (blk_below (g := gb325) (o := .cells #[.int .i64 a1_0, .int .i64 a1_1] 49 (0, 0)) (uq BK325) hb); have n3_ := ak (below_step bs hb); clear HO328; clear BK325; clear HB; have HO328 := n0_; have HO331 := n1_; have BK325 := n2_; have HB := n3_; clear n0_ n1_ n2_ n3_; clear hb ho10; refine hK.out _ _ ⟨(blk_cell BK325.out 0).trans rfl, (blk_cell BK325.out 1).trans rfl⟩ (fun hHeld => ?_); clear hK K; refine norm_ (a' := ?_) ?_ ?_; rotate_left
    ·show Act.put _ (some 8) _ = _
     simp only [Act.put, sA, sZ, sS, i64_w, i32_w]
     rfl
    exact norm_ (by simp only [putAll, Act.put, List.setIfInBounds_toArray, List.set_cons_zero, List.set_cons_succ]) (hCont (v327, v330) _ ⟨hHeld, (by (with_reducible repeat (first | apply Kd.R_alloc | apply Kd.R_drewN | apply Kd.R_drew)); exact Kd.R_mono HO328.out (fun _ hk => ⟨hk.2, hk.1.2⟩)), (by (with_reducible repeat (first | apply Kd.R_alloc | apply Kd.R_drewN | apply Kd.R_drew)); exact Kd.R_mono HO331.out (fun _ hk => ⟨hk.1.2, hk.2⟩)), (uq BK325), bs⟩)
   ·skip
    refine Kd.R_lit_step k49 _ 49 ?hg (N := 8) ?hd (xs := ([(⟨a1_0, a1_1⟩ : S49)] : List (S49))) (inner := [.int .i64 a1_0, .int .i64 a1_1]) (ok := fun _ => True) (okp := fun _ => True) ?hr ?hp (fun _ hk => hk) trivial (Below.refl _ _) (Nat.le_refl _) (by simp) ?_; (case hd => rfl); (case hg => rfl); (case hr => first | (go_simp; done) | (go_simp; rfl)); (case hp => exact (Reps.c2 (show Kd.M k49 _ _ _ (⟨a1_0, a1_1⟩ : S49) [.int .i64 a1_0, .int .i64 a1_1] from (k49_mkM _ _ _ (⟨a1_0, a1_1⟩ : S49) )) (Reps.none _ _))); intro v330 w8 ho9 hb hg_ hnew_; clear hg_ hnew_
    (first | rw [← Ny329.out] at ho9 | (simp only [Int.reduceToNat] at ho9; rw [← Ny329.out] at ho9))
    have n0_ := ak (Kd.R_lower (Kd.R_newB ho9 (g := gb325) (o := .cells #[.int .i64 a1_0, .int .i64 a1_1] 49 (0, 0)) (uq BK325)) (below_size bs)); have n1_ := ak (blk_below (g := gb325) (o := .cells #[.int .i64 a1_0, .int .i64 a1_1] 49 (0, 0)) (uq BK325) hb); have n2_ := ak (below_step bs hb); clear BK325; clear HB; have HO331 := n0_; have BK325 := n1_; have HB := n2_; clear n0_ n1_ n2_; clear hb ho9; refine hK.out _ _ ⟨(blk_cell BK325.out 0).trans rfl, (blk_cell BK325.out 1).trans rfl⟩ (fun hHeld => ?_); clear hK K; refine norm_ (a' := ?_) ?_ ?_; rotate_left
    ·show Act.put _ (some 8) _ = _
     simp only [Act.put, sA, sZ, sS, i64_w, i32_w]
     rfl
    refine one_ (i := 1) (N := some 6) #[Y,Y,Y,Y,Z,Z,Z] rfl rfl (by kernel_rfl) (by decide) (fun K hK => ?_); refine goes_ Try.func70 (by kernel_rfl) rfl #[.slice A0 l0.length c0] (by rfl) rfl rfl aq ?_
    with_reducible refine (slices_Clone.calls _ _ l0 t326 _ ?side1 ?side2 A3.out).mono ?_
    (case side1 => exact cq (Kd.C_below HR0.out HB.out))
    (case side2 => exact HC0.out)
    rintro e w10 ⟨v327, rfl, ho0, hb⟩
    refine ⟨_, rfl, ?_⟩; have n0_ := ak (Kd.R_elder' (rq HO331) (Kd.R_base ho0) hb); have n1_ := ak (Kd.R_lower (Kd.R_newB (Kd.R_new' ho0 (Kd.R_lt (rq HO331))) (g := gb325) (o := .cells #[.int .i64 a1_0, .int .i64 a1_1] 49 (0, 0)) (uq BK325)) (below_size bs)); have n2_ := ak (blk_below (g := gb325) (o := .cells #[.int .i64 a1_0, .int .i64 a1_1] 49 (0, 0)) (uq BK325) hb); have n3_ := ak (below_step bs hb); clear HO331; clear BK325; clear HB; have HO331 := n0_; have HO328 := n1_; have BK325 := n2_; have HB := n3_; clear n0_ n1_ n2_ n3_
    (try clear hb)
    (try clear hb2)
    (try clear hk)
    (try clear hi)
    (try clear ho0)
    refine hK.out _ _ ⟨(blk_cell BK325.out 0).trans rfl, (blk_cell BK325.out 1).trans rfl⟩ (fun hHeld => ?_); clear hK K; refine norm_ (a' := ?_) ?_ ?_; rotate_left
    ·show Act.put _ (some 6) _ = _
     simp only [Act.put, sA, sZ, sS, i64_w, i32_w]
     rfl
    exact norm_ (by simp only [putAll, Act.put, List.setIfInBounds_toArray, List.set_cons_zero, List.set_cons_succ]) (hCont (v327, v330) _ ⟨hHeld, (by (with_reducible repeat (first | apply Kd.R_alloc | apply Kd.R_drewN | apply Kd.R_drew)); exact Kd.R_mono HO328.out (fun _ hk => ⟨hk.1.2, hk.2⟩)), (by (with_reducible repeat (first | apply Kd.R_alloc | apply Kd.R_drewN | apply Kd.R_drew)); exact Kd.R_mono HO331.out (fun _ hk => ⟨hk.2, hk.1.2⟩)), (uq BK325), bs⟩)
  rintro ⟨v327, v330⟩ w11 ⟨hS_, h0_, h1_, h2_, h3_⟩
  have n0_ : Aside0 (Kd.R k49 49 w11 w.heap.size (fun k_ => some k_ ≠ (v330 : Value).ownBlock ∧ k_ ≠ gb325) v327 t326) := ⟨h0_⟩; have n1_ : Aside0 (Kd.R k49 49 w11 w.heap.size (fun k_ => some k_ ≠ (v327 : Value).ownBlock ∧ k_ ≠ gb325) v330 y329) := ⟨h1_⟩; have n2_ : Aside0 (w11.heap[gb325]? = some (.cells #[.int .i64 a1_0, .int .i64 a1_1] 49 (0, 0))) := ⟨h2_⟩; have n3_ : Aside0 (Below w.heap.size w w11) := ⟨h3_⟩; clear BK325; clear HB; clear h0_ h1_ h2_ h3_; have HO328 := n0_; have HO331 := n1_; have BK325 := n2_; have HB := n3_; clear n0_ n1_ n2_ n3_; have hHeld : w11.cell? ⟨gb325, 0, none⟩ = some (.int .i64 a1_0) ∧ w11.cell? ⟨gb325, 1, none⟩ = some (.int .i64 a1_1) := hS_; obtain ⟨Ao13, co13, eo13⟩ := Kd.R_slice HO331.out
  (first | subst eo13 | (injection eo13 with f1_ f2_ f3_; have f4_ := f1_.symm; have f5_ := f3_.symm; clear f1_ f2_ f3_; subst f4_; subst f5_))
  refine norm_ (a' := ?_) ?_ ?_; rotate_left
  ·simp only [putAll, Act.put, List.setIfInBounds_toArray, List.set_cons_zero, List.set_cons_succ]
   rfl
  refine one_ (i := 4) (N := some 9) #[Y,Y,Y,Y,Y,Z,Z] rfl rfl (by kernel_rfl) (by decide) (fun K hK => ?_); refine Kd.R_append_rows_step k49 (w0 := w) w.heap.size (by rfl) (.tmp 6) (.tmp 8) 22 49 (.agg #[(.int .i64 0), (.int .i64 0)]) 16 rfl Try.underlying22 info49 rfl (by decide) (by omega) v327 t326 y329 _ _ _ (fun k_ => some k_ ≠ (.slice Ao13 y329.length co13 : Value).ownBlock ∧ k_ ≠ gb325) (fun _ => False) rfl rfl ?aO ?aR (fun _ _ h => h) (fun _ h => h.elim) ?aF ?aB ?aS ?aL ?_
  (case aR => exact cq (Kd.R_reads' HO331.out).2.2)
  (case aB => exact bs)
  (case aF => exact (fun k_ hk => ⟨Kd.fresh' (Kd.R_lt (rq HO331)) k_ hk, Kd.freshB (g := gb325) (o := .cells #[.int .i64 a1_0, .int .i64 a1_1] 49 (0, 0)) (uq BK325) k_ hk⟩))
  (case aO => exact (rq HO328))
  (case aS => exact (below_size bs))
  (case aL => have := LMc4.out; omega)
  intro v333 w12 ho hb hg hat; rw [← Ny332.out] at ho; have n0_ := ak (blk_grown (g := gb325) (o := .cells #[.int .i64 a1_0, .int .i64 a1_1] 49 (0, 0)) (uq BK325) hg (Kd.R_away HO328.out (fun _ hk => hk.2))); have n1_ := ak (Kd.R_after (ok := (fun k_ => k_ ≠ gb325)) (by (with_reducible repeat (first | apply Kd.R_alloc | apply Kd.R_drewN | apply Kd.R_drew)); exact Kd.R_mono HO331.out (fun _ hk => ⟨hk.2, hk.1⟩)) hg hat); have n2_ := ak (hb); have n3_ := ak (ho); clear BK325; clear HO331; clear HB; clear HO328; have BK325 := n0_; have HO331 := n1_; have HB := n2_; have HO334 := n3_; clear n0_ n1_ n2_ n3_; clear ho hb hg hat; obtain ⟨Ao14, co14, eo14⟩ := Kd.R_slice HO334.out
  (first | subst eo14 | (injection eo14 with f1_ f2_ f3_; have f4_ := f1_.symm; have f5_ := f3_.symm; clear f1_ f2_ f3_; subst f4_; subst f5_))
  refine hK.out _ _ ⟨(blk_cell BK325.out 0).trans rfl, (blk_cell BK325.out 1).trans rfl⟩ (fun hHeld => ?_); clear hK K; refine norm_ (a' := ?_) ?_ ?_; rotate_left
  ·show Act.put _ (some 9) _ = _
   simp only [Act.put, sA, sZ, sS, i64_w, i32_w]
   rfl
  refine one_ (i := 5) (N := some 10) #[Y,Y,Y,Y,Y,Y,Z] rfl rfl (by kernel_rfl) (by decide) (fun K hK => ?_); refine goes_ Try.func72 (by kernel_rfl) rfl #[.slice Ao14 y332.length co14] (by rfl) rfl rfl aq ?_
  with_reducible refine (impl_put.calls k _ _ y332 t335 _ ?side1 ?side2 A5.out).mono ?_
  (case side1 => exact cq (Kd.R_reads' HO334.out).2.2)
  (case side2 => exact (Kd.R_reads' HO334.out).2.1)
  rintro e w15 ⟨v336, rfl, ho0, hb⟩
  refine ⟨_, rfl, ?_⟩; have n0_ := ak (Kd.R_elder' (rq HO331) (Kd.R_base ho0) hb); have n1_ := ak (Kd.R_elder' (rq HO334) (Kd.R_base ho0) hb); have n2_ := ak (Kd.R_lower (Kd.R_newB (Kd.R_new' (Kd.R_new' ho0 (Kd.R_lt (rq HO331))) (Kd.R_lt (rq HO334))) (g := gb325) (o := .cells #[.int .i64 a1_0, .int .i64 a1_1] 49 (0, 0)) (uq BK325)) (below_size bs)); have n3_ := ak (blk_below (g := gb325) (o := .cells #[.int .i64 a1_0, .int .i64 a1_1] 49 (0, 0)) (uq BK325) hb); have n4_ := ak (below_step bs hb); clear HO331; clear HO334; clear BK325; clear HB; have HO331 := n0_; have HO334 := n1_; have HO337 := n2_; have BK325 := n3_; have HB := n4_; clear n0_ n1_ n2_ n3_ n4_
  (try clear hb)
  (try clear hb2)
  (try clear hk)
  (try clear hi)
  (try clear ho0)
  refine hK.out _ _ ⟨(blk_cell BK325.out 0).trans rfl, (blk_cell BK325.out 1).trans rfl⟩ (fun hHeld => ?_); clear hK K; refine norm_ (a' := ?_) ?_ ?_; rotate_left
  ·show Act.put _ (some 10) _ = _
   simp only [Act.put, sA, sZ, sS, i64_w, i32_w]
   rfl
  refine pure_ (i := 6) (N := some 4) (v := ?_) (a' := ?_) #[Y,Y,Y,Y,Y,Y,Y] rfl rfl (by kernel_rfl) (fun _ _ _ h => h) (Or.inl ⟨by rfl, ?_⟩) ?_ ?_; rotate_left
  ·intro w'
   go_simp
   with_reducible rfl
  rotate_left
  ·simp only [Act.put, sA, sZ, sS, i64_w, i32_w]
   rfl
  refine done_ (by kernel_rfl) ?_; (try go_wp2); go_ret; exact ⟨_, eq_, by (with_reducible repeat (first | apply Kd.R_alloc | apply Kd.R_drewN | apply Kd.R_drew)); exact Kd.R_mono HO337.out (fun _ hk => trivial), bs⟩
 ·rw [if_neg c4] at H
  exact absurd H (by simp)

end Go.Proofs.Ytckhmeadflafaaa.XCb
