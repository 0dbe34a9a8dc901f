/- Functions of the program as plain Lean functions, each with the proof that the machine's call does what it says: written by a program of this session out of the translation. -/
import Derived.Test.YtckhmeadflafaaaXCbx0
import Derived.Test.YtckhmeadflafaaaXCbx2
import Derived.Test.YtckhmeadflafaaaXCbx18
import Derived.Test.YtckhmeadflafaaaXCbx20
import Derived.Test.YtckhmeadflafaaaXCbx22
import Derived.Test.YtckhmeadflafaaaXCbx23
import Derived.Test.YtckhmeadflafaaaXCbx24
namespace Go.Proofs.Ytckhmeadflafaaa.XCb
open Go.RowKit Go.Proofs.YtckhmeadflafaaaW.PrintWords Go.Proofs.YtckhmeadflafaaaW.PrintLast Go.Proofs.YtckhmeadflafaaaW.PrintMore
attribute [local go_sem] max2_int min2_int max_two min_two max_three min_three max_four min_four   -- for this text's walks alone
set_option linter.unusedVariables false
set_option linter.unusedSimpArgs false

/-! ### impl_CountBodies: function 26, by hand -/
theorem atB {w : World} {A : Option Addr} {n : Nat} {xs : List (List (S49))} (h : Kd.C (Kd.slice 49 k49) w A n xs) (i : Int) (h0 : 0 ≤ i) (h1 : i < n) : ∃ ad A0 c0, A = some ad ∧ w.cell? (ad.add i.toNat) = some (.slice A0 (rdBd xs i).length c0) ∧ (rdBd xs i).length ≤ c0 ∧ Kd.C k49 w A0 (rdBd xs i).length (rdBd xs i) := by
 obtain ⟨ad, c, e, _, hK, hc0⟩ := Kd.C_get h ([] : List (S49)) i h0 h1; have hc : ∀ j u, c[j]? = some u → w.cell? (ad.add (i.toNat * 1 + j)) = some u := hc0; obtain ⟨A0, c0, rfl, l0, g0⟩ := hK; exact ⟨ad, A0, c0, e, by have hq := hc 0 _ rfl; rwa [Nat.mul_one, Nat.add_zero] at hq, l0, g0⟩
mutual
def impl_CountBodies.l0 : Nat → List (List (S49)) → Int → Int → Option (Int × Int × Bool)
 | 0, _, _, _ => none
 | k + 1, x5, x21, x22 => if x22 < x21 then (impl_CountBodies.l1 k (([] : List (List (S49)))) x21 x22 x5 (x5.length : Int) 0) else (impl_CountBodies.l3 k x5 0 x5 (x5.length : Int) 0)
def impl_CountBodies.l1 : Nat → List (List (S49)) → Int → Int → List (List (S49)) → Int → Int → Option (Int × Int × Bool)
 | 0, _, _, _, _, _, _ => none
 | k + 1, x6, x21, x22, x25, x26, x27 => if x27 < x26 then (if 0 ≤ x27 then (if x27 < (x25.length : Int) then ((impl_besides.f k (rdBd x25 x27)).bind fun t308 => (impl_CountBodies.l2 k x6 (rdBd x25 x27) x21 x22 x25 x26 x27 t308 (t308.length : Int) 0)) else (none)) else (none)) else ((slices_SortFunc_CountBodies_1.f x6).bind fun t303 => ((slices_CompactFunc_CountBodies_2.f k t303).bind fun t304 => (impl_CountBodies.l0 k t304 x21 (wrap64 (x22 + 1)))))
def impl_CountBodies.l2 : Nat → List (List (S49)) → List (S49) → Int → Int → List (List (S49)) → Int → Int → List (S49) → Int → Int → Option (Int × Int × Bool)
 | 0, _, _, _, _, _, _, _, _, _, _ => none
 | k + 1, x6, x8, x21, x22, x25, x26, x27, x32, x33, x34 => if x34 < x33 then (if 0 ≤ x34 then (if x34 < (x32.length : Int) then ((impl_withCell.f k x8 ((rd_T49 x32 x34).f0) ((rd_T49 x32 x34).f1)).bind fun t312 => (if x6.length < 5864062014805 then (impl_CountBodies.l2 k (x6 ++ [t312]) x8 x21 x22 x25 x26 x27 x32 x33 (wrap64 (x34 + 1))) else (none))) else (none)) else (none)) else (impl_CountBodies.l1 k x6 x21 x22 x25 x26 (wrap64 (x27 + 1)))
def impl_CountBodies.l3 : Nat → List (List (S49)) → Int → List (List (S49)) → Int → Int → Option (Int × Int × Bool)
 | 0, _, _, _, _, _ => none
 | k + 1, x5, x11, x51, x52, x53 => if x53 < x52 then (if 0 ≤ x53 then (if x53 < (x51.length : Int) then ((impl_bodySide.f k (rdBd x51 x53)).bind fun t319 => (if t319 = 0 then (impl_CountBodies.l3 k x5 (wrap64 (x11 + 1)) x51 x52 (wrap64 (x53 + 1))) else (impl_CountBodies.l3 k x5 x11 x51 x52 (wrap64 (x53 + 1))))) else (none)) else (none)) else (some ((x5.length : Int), x11, true))
end
def impl_CountBodies.f (k : Nat) (a0 : Int) : Option (Int × Int × Bool) := (impl_within.f a0 1 6).bind fun t293 => (if t293 = true then (impl_CountBodies.l0 k (([(([(⟨0, 0⟩ : S49)] : List (S49)))] : List (List (S49)))) (wrap64 (a0 - 1)) 0) else (some (0, 0, false)))
theorem impl_CountBodies.mono_l : ∀ k, (∀ y0 y1 y2, LeO (impl_CountBodies.l0 k y0 y1 y2) (impl_CountBodies.l0 (k + 1) y0 y1 y2)) ∧ (∀ y0 y1 y2 y3 y4 y5, LeO (impl_CountBodies.l1 k y0 y1 y2 y3 y4 y5) (impl_CountBodies.l1 (k + 1) y0 y1 y2 y3 y4 y5)) ∧ (∀ y0 y1 y2 y3 y4 y5 y6 y7 y8 y9, LeO (impl_CountBodies.l2 k y0 y1 y2 y3 y4 y5 y6 y7 y8 y9) (impl_CountBodies.l2 (k + 1) y0 y1 y2 y3 y4 y5 y6 y7 y8 y9)) ∧ (∀ y0 y1 y2 y3 y4, LeO (impl_CountBodies.l3 k y0 y1 y2 y3 y4) (impl_CountBodies.l3 (k + 1) y0 y1 y2 y3 y4))
 | 0 => ⟨fun _ _ _ r h => by simp [impl_CountBodies.l0] at h, fun _ _ _ _ _ _ r h => by simp [impl_CountBodies.l1] at h, fun _ _ _ _ _ _ _ _ _ _ r h => by simp [impl_CountBodies.l2] at h, fun _ _ _ _ _ r h => by simp [impl_CountBodies.l3] at h⟩
 | k + 1 => by
  obtain ⟨ih0, ih1, ih2, ih3⟩ := impl_CountBodies.mono_l k; refine ⟨?_, ?_, ?_, ?_⟩
  ·intro y0 y1 y2
   unfold impl_CountBodies.l0
   repeat' first
   | (with_reducible exact ih0 _ _ _)
   | (with_reducible exact ih1 _ _ _ _ _ _)
   | (with_reducible exact ih2 _ _ _ _ _ _ _ _ _ _)
   | (with_reducible exact ih3 _ _ _ _ _)
   | (with_reducible exact impl_besides.mono _ _)
   | (with_reducible exact impl_bodySide.mono _ _)
   | (with_reducible exact impl_withCell.mono _ _ _ _)
   | (with_reducible exact slices_CompactFunc_CountBodies_2.mono _ _)
   | (with_reducible exact LeO.refl _)
   | (with_reducible exact LeO.none _)
   | (with_reducible refine LeO.ite ?_ ?_)
   | (with_reducible refine LeO.bind ?_ (fun _ => ?_))
  ·intro y0 y1 y2 y3 y4 y5
   unfold impl_CountBodies.l1
   repeat' first
   | (with_reducible exact ih0 _ _ _)
   | (with_reducible exact ih1 _ _ _ _ _ _)
   | (with_reducible exact ih2 _ _ _ _ _ _ _ _ _ _)
   | (with_reducible exact ih3 _ _ _ _ _)
   | (with_reducible exact impl_besides.mono _ _)
   | (with_reducible exact impl_bodySide.mono _ _)
   | (with_reducible exact impl_withCell.mono _ _ _ _)
   | (with_reducible exact slices_CompactFunc_CountBodies_2.mono _ _)
   | (with_reducible exact LeO.refl _)
   | (with_reducible exact LeO.none _)
   | (with_reducible refine LeO.ite ?_ ?_)
   | (with_reducible refine LeO.bind ?_ (fun _ => ?_))
  ·intro y0 y1 y2 y3 y4 y5 y6 y7 y8 y9
   unfold impl_CountBodies.l2
   repeat' first
   | (with_reducible exact ih0 _ _ _)
   | (with_reducible exact ih1 _ _ _ _ _ _)
   | (with_reducible exact ih2 _ _ _ _ _ _ _ _ _ _)
   | (with_reducible exact ih3 _ _ _ _ _)
   | (with_reducible exact impl_besides.mono _ _)
   | (with_reducible exact impl_bodySide.mono _ _)
   | (with_reducible exact impl_withCell.mono _ _ _ _)
   | (with_reducible exact slices_CompactFunc_CountBodies_2.mono _ _)
   | (with_reducible exact LeO.refl _)
   | (with_reducible exact LeO.none _)
   | (with_reducible refine LeO.ite ?_ ?_)
   | (with_reducible refine LeO.bind ?_ (fun _ => ?_))
  ·intro y0 y1 y2 y3 y4
   unfold impl_CountBodies.l3
   repeat' first
   | (with_reducible exact ih0 _ _ _)
   | (with_reducible exact ih1 _ _ _ _ _ _)
   | (with_reducible exact ih2 _ _ _ _ _ _ _ _ _ _)
   | (with_reducible exact ih3 _ _ _ _ _)
   | (with_reducible exact impl_besides.mono _ _)
   | (with_reducible exact impl_bodySide.mono _ _)
   | (with_reducible exact impl_withCell.mono _ _ _ _)
   | (with_reducible exact slices_CompactFunc_CountBodies_2.mono _ _)
   | (with_reducible exact LeO.refl _)
   | (with_reducible exact LeO.none _)
   | (with_reducible refine LeO.ite ?_ ?_)
   | (with_reducible refine LeO.bind ?_ (fun _ => ?_))
theorem impl_CountBodies.mono : ∀ a0 k, LeO (impl_CountBodies.f k a0) (impl_CountBodies.f (k + 1) a0) := by
 intro a0 k; obtain ⟨ih0, ih1, ih2, ih3⟩ := impl_CountBodies.mono_l k
 unfold impl_CountBodies.f
 repeat' first
   | (with_reducible exact ih0 _ _ _)
   | (with_reducible exact ih1 _ _ _ _ _ _)
   | (with_reducible exact ih2 _ _ _ _ _ _ _ _ _ _)
   | (with_reducible exact ih3 _ _ _ _ _)
   | (with_reducible exact impl_besides.mono _ _)
   | (with_reducible exact impl_bodySide.mono _ _)
   | (with_reducible exact impl_withCell.mono _ _ _ _)
   | (with_reducible exact slices_CompactFunc_CountBodies_2.mono _ _)
   | (with_reducible exact LeO.refl _)
   | (with_reducible exact LeO.none _)
   | (with_reducible refine LeO.ite ?_ ?_)
   | (with_reducible refine LeO.bind ?_ (fun _ => ?_))
set_option maxHeartbeats 8000000 in
set_option maxRecDepth 100000 in
theorem impl_CountBodies.calls (k : Nat) (a0 : Int) (r1 : Int) (r2 : Int) (r3 : Bool) (w : World) (h : impl_CountBodies.f k a0 = some (r1, r2, r3)) :
  Calls Try.prog 26 #[.int .i64 a0] w fun e w' => e = .returned (.tuple #[.int .i64 r1, .int .i64 r2, .bool r3]) ∧ Below w.heap.size w w' := by
 have hu_ := Try.underlying49; have HB := ak (Below.refl w.heap.size w); have H : ((impl_within.f a0 1 6).bind fun t293 => (if t293 = true then (impl_CountBodies.l0 k (([(([(⟨0, 0⟩ : S49)] : List (S49)))] : List (List (S49)))) (wrap64 (a0 - 1)) 0) else (some (0, 0, false)))) = some (r1, r2, r3) := h; clear h; obtain ⟨t293, A20, H⟩ := Option.bind_eq_some_iff.mp H
 (try dsimp only at H)
 have A2 := ak A20; clear A20
 by_cases c3 : t293 = true
 ·subst c3
  rw [if_pos rfl] at H; obtain ⟨y294, hy294⟩ : ∃ y_ : List (S49), y_ = (([(⟨0, 0⟩ : S49)] : List (S49))) := ⟨_, rfl⟩
  replace H : (impl_CountBodies.l0 k (([y294] : List (List (S49)))) (wrap64 (a0 - 1)) 0) = some (r1, r2, r3) := by first | (rw [hy294]; with_reducible exact H) | (have H2_ := (Option.bind_some _ _).symm.trans H; rw [hy294]; with_reducible exact H2_) | (have H2_ := (Option.bind_some _ _).symm.trans H; with_reducible exact H2_) | with_reducible exact H | (rw [hy294]; exact H) | exact H
  have Ny294 := ak hy294; clear hy294; obtain ⟨y297, hy297⟩ : ∃ y_ : List (List (S49)), y_ = (([y294] : List (List (S49)))) := ⟨_, rfl⟩
  replace H : (impl_CountBodies.l0 k y297 (wrap64 (a0 - 1)) 0) = some (r1, r2, r3) := by first | (rw [hy297]; with_reducible exact H) | (have H2_ := (Option.bind_some _ _).symm.trans H; rw [hy297]; with_reducible exact H2_) | (have H2_ := (Option.bind_some _ _).symm.trans H; with_reducible exact H2_) | with_reducible exact H | (rw [hy297]; exact H) | exact H
  have Ny297 := ak hy297; clear hy297; have H' := ak H; clear H
  go_enter Try.func26, Try.ntmps26
  go_wp2_with (first | ((with_reducible refine gate_callee (f := 69) rfl ?_); refine goesL_ (some 15) rfl rfl Try.func69 (by kernel_rfl) rfl #[.int .i64 a0, .int .i64 1, .int .i64 6] rfl aq ?_; (with_reducible refine (impl_within.calls a0 1 6 true _ A2.out).mono ?_); rintro e w' ⟨rfl, ⟨nd, rfl⟩⟩; refine ⟨_, rfl, ?_⟩) | ((with_reducible refine gate_dst (N := 18) rfl ?_); refine Kd.R_lit k49 _ 49 ?hg (N := 18) ?hd (xs := ([(⟨0, 0⟩ : S49)] : List (S49))) (inner := [.int .i64 0, .int .i64 0]) (ok := fun _ => True) (okp := fun _ => True) ?hr ?hp (fun _ hk => hk) trivial (Below.refl _ _) (Nat.le_refl _) (by simp) ?_; (case hd => rfl); (case hg => rfl); (case hr => first | (go_simp; done) | (go_simp; rfl)); (case hp => exact (Reps.c2 (show Kd.M k49 _ _ _ (⟨0, 0⟩ : S49) [.int .i64 0, .int .i64 0] from (k49_mkM _ _ _ (⟨0, 0⟩ : S49) )) (Reps.none _ _))); intro v295 w4 ho5 hb hg_ hnew_; clear hg_ hnew_; (first | rw [← Ny294.out] at ho5 | (simp only [Int.reduceToNat] at ho5; rw [← Ny294.out] at ho5)); have n0_ := ak (Kd.R_lower ho5 (below_size bq)); have n1_ := ak (below_step bq hb); clear HB; have HO296 := n0_; have HB := n1_; clear n0_ n1_; clear hb ho5; obtain ⟨Ao6, co6, eo6⟩ := Kd.R_slice HO296.out; subst eo6) | ((with_reducible refine gate_dst (N := 19) rfl ?_); refine Kd.N_lit (Kd.slice 49 k49) _ 22 ?hg (N' := 19) ?hd (xs := ([y294] : List (List (S49)))) (inner := [.slice Ao6 y294.length co6]) (ok := (fun _ => True)) (okp := (fun _ => True)) ?hr ?hp (fun _ hk => hk) ((show ∀ k_, w4.heap.size ≤ k_ → (fun _ => True) k_ from fun k_ hk => trivial) _ (Nat.le_refl _)) (Below.refl _ _) (Nat.le_refl _) (by simp) ?_; (case hd => rfl); (case hg => rfl); (case hr => first | (go_simp; done) | (go_simp; rfl)); (case hp => exact (Reps.one (show Kd.FK (Kd.slice 49 k49) _ _ y294 [.slice Ao6 y294.length co6] from (Kd.FK_slice_mk (Kd.R_reads' (Kd.R_mono (ok' := (fun _ => True)) (HO296.out) (fun k_ hk => trivial))).2.1 (Kd.R_F (Kd.R_mono (ok' := (fun _ => True)) (HO296.out) (fun k_ hk => trivial))))) (Reps.none _ _))); intro v298 w7 ho8 hb hg_ hnew_; clear hg_ hnew_; (first | rw [← Ny297.out] at ho8 | (simp only [Int.reduceToNat] at ho8; rw [← Ny297.out] at ho8)); have n0_ := ak (Kd.N_lower ho8 (below_size bq)); have n1_ := ak (below_step bq hb); clear HB; clear HO296; have HO299 := n0_; have HB := n1_; clear n0_ n1_; clear hb ho8))
  (try simp only [Act.put, sA, sZ, sS])
  go_loopg [5, 22] k (fun kq v5 v22 w' => ∃ (x5_1 : List (List (S49))) (x22_1 : Int), v22 = .int .i64 x22_1 ∧ Aside0 (impl_CountBodies.l0 kq x5_1 (wrap64 (a0 - 1)) x22_1 = some (r1, r2, r3)) ∧ Aside0 (kq ≤ k) ∧ Aside0 (Kd.N (Kd.slice 49 k49) 22 w' w.heap.size (fun _ => True) v5 x5_1) ∧ Aside0 (Below w.heap.size w w'))
  case atStart => exact ⟨(y297), (0), sq, H', ⟨Nat.le_refl _⟩, ⟨by (with_reducible repeat (first | apply Kd.N_alloc | apply Kd.N_drewN | apply Kd.N_drew)); exact HO299.out⟩, ⟨bq⟩⟩
  case round =>
   clear H'; (try clear c2); (try clear p2); (try clear c3); (try clear c6); (try clear p6); obtain ⟨x5_1, x22_1, rfl, HA, HK1, HO_5, HB⟩ := hrel
   cases gk with
   | zero => exact absurd HA.out (by simp [impl_CountBodies.l0])
   | succ k1 =>
    have H := HA.out; clear HA; simp only [impl_CountBodies.l0] at H
    by_cases c9 : x22_1 < (wrap64 (a0 - 1))
    ·rw [if_pos c9] at H
     have c9b0 := decide_eq_true c9; clear c9; obtain ⟨y300, hy300⟩ : ∃ y_ : List (List (S49)), y_ = (([] : List (List (S49)))) := ⟨_, rfl⟩
     replace H : (impl_CountBodies.l1 k1 y300 (wrap64 (a0 - 1)) x22_1 x5_1 (x5_1.length : Int) 0) = some (r1, r2, r3) := by first | (rw [hy300]; with_reducible exact H) | (have H2_ := (Option.bind_some _ _).symm.trans H; rw [hy300]; with_reducible exact H2_) | (have H2_ := (Option.bind_some _ _).symm.trans H; with_reducible exact H2_) | with_reducible exact H | (rw [hy300]; exact H) | exact H
     have Ny300 := ak hy300; clear hy300; have H' := ak H; clear H
     go_wp2_with (first | ((with_reducible refine gate_dst (N := 24) rfl ?_); refine Kd.N_lit (Kd.slice 49 k49) _ 22 ?hg (N' := 24) ?hd (xs := ([] : List (List (S49)))) (inner := []) (ok := (fun k_ => some k_ ≠ (u5 : Value).ownBlock)) (okp := (fun k_ => some k_ ≠ (u5 : Value).ownBlock)) ?hr ?hp (fun _ hk => hk) ((show ∀ k_, wr.heap.size ≤ k_ → (fun k_ => some k_ ≠ (u5 : Value).ownBlock) k_ from fun k_ hk => Kd.fresh' (Kd.N_lt (by (with_reducible repeat (first | apply Kd.N_alloc | apply Kd.N_drewN | apply Kd.N_drew)); exact HO_5.out)) k_ hk) _ (Nat.le_refl _)) (Below.refl _ _) (Nat.le_refl _) (by simp) ?_; (case hd => rfl); (case hg => rfl); (case hr => first | (go_simp; done) | (go_simp; rfl)); (case hp => exact (Reps.none _ _)); intro v301 w10 ho11 hb hg_ hnew_; clear hg_ hnew_; (first | rw [← Ny300.out] at ho11 | (simp only [Int.reduceToNat] at ho11; rw [← Ny300.out] at ho11)); have n0_ := ak (Kd.N_elder' (by (with_reducible repeat (first | apply Kd.N_alloc | apply Kd.N_drewN | apply Kd.N_drew)); exact HO_5.out) (Kd.N_base ho11) hb); have n1_ := ak (Kd.N_lower ho11 (below_size bq)); have n2_ := ak (below_step bq hb); clear HO_5; clear HB; have HO_5 := n0_; have HO302 := n1_; have HB := n2_; clear n0_ n1_ n2_; clear hb ho11; obtain ⟨Ao12, co12, eo12⟩ := Kd.N_slice HO_5.out; subst eo12))
     (try simp only [Act.put, sA, sZ, sS])
     go_loopg [6, 27] k1 (fun kq v6 v27 w' => ∃ (x6_2 : List (List (S49))) (x27_2 : Int), v27 = .int .i64 x27_2 ∧ Aside0 (impl_CountBodies.l1 kq x6_2 (wrap64 (a0 - 1)) x22_1 x5_1 (x5_1.length : Int) x27_2 = some (r1, r2, r3)) ∧ Aside0 (kq ≤ k1) ∧ Aside0 (Kd.N (Kd.slice 49 k49) 22 w' w.heap.size (fun k_ => some k_ ≠ ((.slice Ao12 x5_1.length co12) : Value).ownBlock) v6 x6_2) ∧ Aside0 (Kd.N (Kd.slice 49 k49) 22 w' w.heap.size (fun k_ => some k_ ≠ (v6 : Value).ownBlock) (.slice Ao12 x5_1.length co12) x5_1) ∧ Aside0 (Below w.heap.size w w'))
     case atStart => exact ⟨(y300), (0), sq, H', ⟨Nat.le_refl _⟩, ⟨by (with_reducible repeat (first | apply Kd.N_alloc | apply Kd.N_drewN | apply Kd.N_drew)); exact HO302.out⟩, ⟨by (with_reducible repeat (first | apply Kd.N_alloc | apply Kd.N_drewN | apply Kd.N_drew)); exact Kd.N_mono HO_5.out (fun _ hk => hk.2)⟩, ⟨bq⟩⟩
     case round =>
      clear H'; (try clear c2); (try clear p2); (try clear c3); (try clear c6); (try clear p6); (try clear c9); (try clear c9b0); (try clear p2); (try clear p6); obtain ⟨x6_2, x27_2, rfl, HA, HK2, HO_6, HO_25, HB⟩ := hrel
      cases gk with
      | zero => exact absurd HA.out (by simp [impl_CountBodies.l1])
      | succ k2 =>
       have H := HA.out; clear HA; simp only [impl_CountBodies.l1] at H
       by_cases c13 : x27_2 < (x5_1.length : Int)
       ·rw [if_pos c13] at H
        have c13b0 := decide_eq_true c13; clear c13
        by_cases c14 : 0 ≤ x27_2
        ·rw [if_pos c14] at H
         have c14b0 := decide_eq_true c14; clear c14
         by_cases c15 : x27_2 < (x5_1.length : Int)
         ·rw [if_pos c15] at H
          have c15b0 := decide_eq_true c15; clear c15; obtain ⟨t308, A160, H⟩ := Option.bind_eq_some_iff.mp H
          (try dsimp only at H)
          have A16 := ak A160; clear A160; have H' := ak H; clear H; have p307 : 0 ≤ (x27_2 : Int) := dq; have q307 : x27_2 < (x5_1.length : Int) := dq; obtain ⟨ad307, A307_0, c307_0, e307, hx307_0, hl307_0, hi307_0⟩ := atB (Kd.N_reads' HO_25.out).2.2 x27_2 p307 q307; cases e307; obtain ⟨ce307, hce307, hMe307, hcc307⟩ := Kd.N_get HO_25.out [] x27_2 p307 (by first | exact q307 | exact dq | (have e_ := (Kd.N_reads' HO_25.out).1; omega)); obtain ⟨ua307_0, uc307_0, rfl, ul307_0, ge307_0⟩ := Kd.FK_slice_open hMe307; have hv307_0 := hcc307 0 _ rfl; rw [Nat.add_zero, show ((Kd.slice 49 k49)).sz = 1 from rfl, Nat.mul_one] at hv307_0; replace hv307_0 := Option.some.inj (hv307_0.symm.trans hx307_0)
          injection hv307_0 with hva_ hvn_ hvc_
          rw [hva_] at ge307_0; rw [hvc_] at ul307_0; have HL307_0 := ak (show Kd.V k49 49 _ w.heap.size _ _ (rdBd x5_1 x27_2) from Kd.V_mk ul307_0 ge307_0); clear hva_ hvn_ hvc_ ge307_0 ul307_0; clear hcc307 hce307; have HR307_0 := ak hi307_0; have HC307_0 := ak hl307_0; clear hi307_0 hl307_0; replace p307 := eq_true p307; replace q307 := eq_true q307
          go_wp2_with (first | ((with_reducible refine gate_callee (f := 79) rfl ?_); refine goesL_ (some 32) rfl rfl Try.func79 (by kernel_rfl) rfl #[.slice A307_0 (rdBd x5_1 x27_2).length c307_0] rfl aq ?_; (with_reducible refine (impl_besides.calls k2 _ _ (rdBd x5_1 x27_2) t308 _ ?side1 ?side2 A16.out).mono ?_); (case side1 => exact cq (by repeat (first | (with_reducible exact HR307_0.out) | (with_reducible refine Kd.C_alloc ?_ _) | (with_reducible refine Kd.C_drewN ?_ _) | (with_reducible refine Kd.C_drew ?_) | exact HR307_0.out))); (case side2 => exact HC307_0.out); rintro e w17 ⟨v309, rfl, ho0, hb⟩; refine ⟨_, rfl, ?_⟩; have n0_ := ak (Kd.N_elder' (by (with_reducible repeat (first | apply Kd.N_alloc | apply Kd.N_drewN | apply Kd.N_drew)); exact HO_6.out) (Kd.R_base ho0) hb); have n1_ := ak (Kd.N_elder' (by (with_reducible repeat (first | apply Kd.N_alloc | apply Kd.N_drewN | apply Kd.N_drew)); exact HO_25.out) (Kd.R_base ho0) hb); have n2_ := ak (Kd.V_elder' (by (with_reducible repeat (first | apply Kd.V_alloc | apply Kd.V_drewN | apply Kd.V_drew)); exact HL307_0.out) (Kd.R_base ho0) hb); have n3_ := ak (Kd.R_lower ho0 (below_size bq)); have n4_ := ak (Kd.C_below (by repeat (first | (with_reducible exact HR307_0.out) | (with_reducible refine Kd.C_alloc ?_ _) | (with_reducible refine Kd.C_drewN ?_ _) | (with_reducible refine Kd.C_drew ?_) | exact HR307_0.out)) hb); have n5_ := ak (below_step bq hb); clear HO_6; clear HO_25; clear HL307_0; clear HR307_0; clear HB; have HO_6 := n0_; have HO_25 := n1_; have HL307_0 := n2_; have HO310 := n3_; have HR307_0 := n4_; have HB := n5_; clear n0_ n1_ n2_ n3_ n4_ n5_; (try clear hb); (try clear hb2); (try clear hk); (try clear hi); (try clear ho0); obtain ⟨Ao18, co18, eo18⟩ := Kd.R_slice HO310.out; subst eo18))
          (try simp only [Act.put, sA, sZ, sS])
          go_loopg [6, 34] k2 (fun kq v6 v34 w' => ∃ (x6_3 : List (List (S49))) (x34_3 : Int), v34 = .int .i64 x34_3 ∧ Aside0 (impl_CountBodies.l2 kq x6_3 (rdBd x5_1 x27_2) (wrap64 (a0 - 1)) x22_1 x5_1 (x5_1.length : Int) x27_2 t308 (t308.length : Int) x34_3 = some (r1, r2, r3)) ∧ Aside0 (kq ≤ k2) ∧ Aside0 (Kd.N (Kd.slice 49 k49) 22 w' w.heap.size (fun k_ => some k_ ≠ ((.slice (some ad307) x5_1.length co12) : Value).ownBlock ∧ some k_ ≠ ((.slice Ao18 t308.length co18) : Value).ownBlock) v6 x6_3) ∧ Aside0 (Kd.N (Kd.slice 49 k49) 22 w' w.heap.size (fun k_ => some k_ ≠ (v6 : Value).ownBlock ∧ some k_ ≠ ((.slice Ao18 t308.length co18) : Value).ownBlock) (.slice (some ad307) x5_1.length co12) x5_1) ∧ Aside0 (Kd.R k49 49 w' w.heap.size (fun _ => True) (.slice Ao18 t308.length co18) t308) ∧ Aside0 (Kd.V k49 49 w' w.heap.size (fun k_ => some k_ ≠ (v6 : Value).ownBlock) (.slice A307_0 (rdBd x5_1 x27_2).length c307_0) (rdBd x5_1 x27_2)) ∧ Aside0 (Below w.heap.size w w'))
          case atStart => exact ⟨(x6_2), (0), sq, H', ⟨Nat.le_refl _⟩, ⟨by (with_reducible repeat (first | apply Kd.N_alloc | apply Kd.N_drewN | apply Kd.N_drew)); exact HO_6.out⟩, ⟨by (with_reducible repeat (first | apply Kd.N_alloc | apply Kd.N_drewN | apply Kd.N_drew)); exact HO_25.out⟩, ⟨rq HO310⟩, ⟨by (with_reducible repeat (first | apply Kd.V_alloc | apply Kd.V_drewN | apply Kd.V_drew)); exact Kd.V_mono HL307_0.out (fun _ hk => hk.1.1)⟩, ⟨bq⟩⟩
          case round =>
           clear H'; (try clear c1); (try clear c2); (try clear p2); (try clear c3); (try clear p3); (try clear q3); (try clear hx3); (try clear c6); (try clear p6); (try clear c7); (try clear c9); (try clear c9b0); (try clear c13); (try clear c13b0); (try clear c14); (try clear c14b0); (try clear c15); (try clear c15b0); (try clear hx307_0); (try clear p2); (try clear p307); (try clear p6); (try clear q307); obtain ⟨x6_3, x34_3, rfl, HA, HK3, HO_6, HO_25, HO_32, HV8, HB⟩ := hrel
           cases gk with
           | zero => exact absurd HA.out (by simp [impl_CountBodies.l2])
           | succ k3 =>
            have H := HA.out; clear HA; simp only [impl_CountBodies.l2] at H
            by_cases c19 : x34_3 < (t308.length : Int)
            ·rw [if_pos c19] at H
             have c19b0 := decide_eq_true c19; clear c19
             by_cases c20 : 0 ≤ x34_3
             ·rw [if_pos c20] at H
              have c20b0 := decide_eq_true c20; clear c20
              by_cases c21 : x34_3 < (t308.length : Int)
              ·rw [if_pos c21] at H
               have c21b0 := decide_eq_true c21; clear c21; obtain ⟨t312, A220, H⟩ := Option.bind_eq_some_iff.mp H
               (try dsimp only at H)
               have A22 := ak A220; clear A220
               by_cases c23 : x6_3.length < 5864062014805
               ·rw [if_pos c23] at H
                have LMc23 := ak c23; clear c23; obtain ⟨y315, hy315⟩ : ∃ y_ : List (List (S49)), y_ = (x6_3 ++ [t312]) := ⟨_, rfl⟩
                replace H : (impl_CountBodies.l2 k3 y315 (rdBd x5_1 x27_2) (wrap64 (a0 - 1)) x22_1 x5_1 (x5_1.length : Int) x27_2 t308 (t308.length : Int) (wrap64 (x34_3 + 1))) = some (r1, r2, r3) := by first | (rw [hy315]; with_reducible exact H) | (have H2_ := (Option.bind_some _ _).symm.trans H; rw [hy315]; with_reducible exact H2_) | (have H2_ := (Option.bind_some _ _).symm.trans H; with_reducible exact H2_) | with_reducible exact H | (rw [hy315]; exact H) | exact H
                have Ny315 := ak hy315; clear hy315; have H' := ak H; clear H; have p311 : 0 ≤ (x34_3 : Int) := dq; have q311 : x34_3 < (t308.length : Int) := dq; obtain ⟨ad311, e311, hx311_0, hx311_1⟩ := at_T49 (Kd.R_reads' HO_32.out).2.2 x34_3 p311 q311; cases e311; replace p311 := eq_true p311; replace q311 := eq_true q311
                go_wp2_with (first | ((with_reducible refine gate_dst (N := 10) rfl ?_); refine box_event ?hg (N := 10) ?hd (cs := #[.int .i64 0, .int .i64 0]) (t := 49) ?hr ?_; (case hd => rfl); (case hg => rfl); (case hr => first | (go_simp; done) | (go_simp; rfl)); intro gb10 hg w10b hbox hb; obtain ⟨w2b, hw2b⟩ : ∃ w2b, (w10b.setCell ⟨gb10, 0, none⟩ (.int .i64 ((rd_T49 t308 x34_3).f0))).setCell ⟨gb10, 1, none⟩ (.int .i64 ((rd_T49 t308 x34_3).f1)) = w2b := ⟨_, rfl⟩; have hb2 : Below wr.heap.size wr w2b := (by rw [← hw2b]; exact below_set (below_set hb (Nat.le_of_eq hg.symm)) (Nat.le_of_eq hg.symm)); have hk2 : w2b.heap[gb10]? = some (.cells #[.int .i64 ((rd_T49 t308 x34_3).f0), .int .i64 ((rd_T49 t308 x34_3).f1)] 49 (0, 0)) := (by rw [← hw2b]; exact blk_put (cs := #[.int .i64 ((rd_T49 t308 x34_3).f0), .int .i64 0]) (blk_put (cs := #[.int .i64 0, .int .i64 0]) hbox 0 _ rfl) 1 _ rfl); have hcz_0 : w10b.cell? ⟨gb10, 0, none⟩ = some (.int .i64 0) := (blk_cell hbox 0).trans rfl; have hcz_1 : w10b.cell? ⟨gb10, 1, none⟩ = some (.int .i64 0) := (blk_cell hbox 1).trans rfl; have hfz_0 := blk_frozen hbox 0; have hfz_1 := blk_frozen hbox 1; have hcy_0 : w2b.cell? ⟨gb10, 0, none⟩ = some (.int .i64 ((rd_T49 t308 x34_3).f0)) := (blk_cell hk2 0).trans rfl; have hcy_1 : w2b.cell? ⟨gb10, 1, none⟩ = some (.int .i64 ((rd_T49 t308 x34_3).f1)) := (blk_cell hk2 1).trans rfl; have n0_ := ak (Kd.N_below (by (with_reducible repeat (first | apply Kd.N_alloc | apply Kd.N_drewN | apply Kd.N_drew)); exact HO_6.out) hb2); have n1_ := ak (Kd.N_below (by (with_reducible repeat (first | apply Kd.N_alloc | apply Kd.N_drewN | apply Kd.N_drew)); exact HO_25.out) hb2); have n2_ := ak (Kd.R_below (rq HO_32) hb2); have n3_ := ak (Kd.V_below (by (with_reducible repeat (first | apply Kd.V_alloc | apply Kd.V_drewN | apply Kd.V_drew)); exact HV8.out) hb2); have n4_ := ak (below_step bq hb2); clear HO_6 HO_25 HO_32 HV8 HB hb2 hk2 hbox hb hg; have HO_6 := n0_; have HO_25 := n1_; have HO_32 := n2_; have HV8 := n3_; have HB := n4_; clear n0_ n1_ n2_ n3_ n4_) | ((with_reducible refine gate_callee (f := 80) rfl ?_); refine goesL_ (some 41) rfl rfl Try.func80 (by kernel_rfl) rfl #[.slice A307_0 (rdBd x5_1 x27_2).length c307_0, .agg #[.int .i64 ((rd_T49 t308 x34_3).f0), .int .i64 ((rd_T49 t308 x34_3).f1)]] rfl aq ?_; (with_reducible refine (impl_withCell.calls k3 _ _ (rdBd x5_1 x27_2) ((rd_T49 t308 x34_3).f0) ((rd_T49 t308 x34_3).f1) t312 _ ?side1 ?side2 A22.out).mono ?_); (case side1 => exact (Kd.V_reads' HV8.out).2.2); (case side2 => exact HC307_0.out); rintro e w24 ⟨v313, rfl, ho0, hb⟩; refine ⟨_, rfl, ?_⟩; have n0_ := ak (Kd.N_elder' (by (with_reducible repeat (first | apply Kd.N_alloc | apply Kd.N_drewN | apply Kd.N_drew)); exact HO_6.out) (Kd.R_base ho0) hb); have n1_ := ak (Kd.N_elder' (by (with_reducible repeat (first | apply Kd.N_alloc | apply Kd.N_drewN | apply Kd.N_drew)); exact HO_25.out) (Kd.R_base ho0) hb); have n2_ := ak (Kd.R_elder' (rq HO_32) (Kd.R_base ho0) hb); have n3_ := ak (Kd.R_lower (Kd.R_new' ho0 (Kd.R_lt (rq HO_32))) (below_size bq)); have n4_ := ak (below_step bq hb); have nv_ := ak (Kd.V_elder' (by (with_reducible repeat (first | apply Kd.V_alloc | apply Kd.V_drewN | apply Kd.V_drew)); exact HV8.out) (Kd.R_base ho0) hb); clear HV8; have HV8 := nv_; clear nv_; clear HO_6; clear HO_25; clear HO_32; clear HB; have HO_6 := n0_; have HO_25 := n1_; have HO_32 := n2_; have HO314 := n3_; have HB := n4_; clear n0_ n1_ n2_ n3_ n4_; (try clear hb); (try clear hb2); (try clear hk); (try clear hi); (try clear ho0); obtain ⟨Ao26, co26, eo26⟩ := Kd.R_slice HO314.out; subst eo26) | ((with_reducible refine gate_builtin (b := .append) (xs := #[.tmp 38, .tmp 42]) rfl ?_); at_builtin; refine Kd.N_append (Kd.slice 49 k49) (w0 := w) w.heap.size rfl (.tmp 38) (.tmp 42) 68 22 (.slice none 0 0) 24 rfl Try.underlying68 info22 rfl (by decide) (by omega) u6 x6_3 t312 [.slice Ao26 t312.length co26] (fun k_ => some k_ ≠ (.slice (some ad307) x5_1.length co12 : Value).ownBlock ∧ some k_ ≠ (.slice (some ad311) t308.length co18 : Value).ownBlock) (fun k_ => ((fun k_ => some k_ ≠ (.slice (some ad307) x5_1.length co12 : Value).ownBlock ∧ some k_ ≠ (.slice (some ad311) t308.length co18 : Value).ownBlock)) k_ ∧ some k_ ≠ (u6 : Value).ownBlock) rfl rfl ?aP (fun _ hk => hk) ?aF ?aO ?aB ?aS ?aL ?_; (case aP => exact (Kd.FK_slice_mk (Kd.R_reads' (Kd.R_mono (ok' := (fun k_ => ((fun k_ => some k_ ≠ (.slice (some ad307) x5_1.length co12 : Value).ownBlock ∧ some k_ ≠ (.slice (some ad311) t308.length co18 : Value).ownBlock)) k_ ∧ some k_ ≠ (u6 : Value).ownBlock)) (Kd.R_apart' (Kd.R_apart' (HO314.out) (Kd.N_typed HO_25.out) (by decide)) (Kd.N_typed HO_6.out) (by decide)) (fun k_ hk => ⟨⟨hk.1.2, hk.1.1.2⟩, hk.2⟩))).2.1 (Kd.R_F (Kd.R_mono (ok' := (fun k_ => ((fun k_ => some k_ ≠ (.slice (some ad307) x5_1.length co12 : Value).ownBlock ∧ some k_ ≠ (.slice (some ad311) t308.length co18 : Value).ownBlock)) k_ ∧ some k_ ≠ (u6 : Value).ownBlock)) (Kd.R_apart' (Kd.R_apart' (HO314.out) (Kd.N_typed HO_25.out) (by decide)) (Kd.N_typed HO_6.out) (by decide)) (fun k_ hk => ⟨⟨hk.1.2, hk.1.1.2⟩, hk.2⟩))))); (case aB => exact bq); (case aF => exact (fun k_ hk => ⟨Kd.fresh' (Kd.N_lt (by (with_reducible repeat (first | apply Kd.N_alloc | apply Kd.N_drewN | apply Kd.N_drew)); exact HO_25.out)) k_ hk, Kd.fresh' (Kd.R_lt (rq HO_32)) k_ hk⟩)); (case aO => exact (by (with_reducible repeat (first | apply Kd.N_alloc | apply Kd.N_drewN | apply Kd.N_drew)); exact Kd.N_mono HO_6.out (fun _ hk => ⟨hk.1.1, hk.1.2⟩))); (case aS => exact (below_size bq)); (case aL => have := LMc23.out; omega); intro v316 w25 ho hb hg hat; rw [← Ny315.out] at ho; have n0_ := ak (Kd.N_afterv (ok := (fun k_ => some k_ ≠ (.slice (some ad311) t308.length co18 : Value).ownBlock ∧ some k_ ≠ (.slice Ao26 t312.length co26 : Value).ownBlock)) (by (with_reducible repeat (first | apply Kd.N_alloc | apply Kd.N_drewN | apply Kd.N_drew)); exact Kd.N_mono HO_25.out (fun _ hk => ⟨⟨hk.1.2, hk.2⟩, hk.1.1⟩)) hg hat); have n1_ := ak (Kd.R_over' (rq HO_32) (Kd.N_typed (by (with_reducible repeat (first | apply Kd.N_alloc | apply Kd.N_drewN | apply Kd.N_drew)); exact HO_6.out)) (by decide) hg); have n2_ := ak (hb); have n3_ := ak (ho); have nv_ := ak (Kd.V_afterv (ok := (fun k_ => some k_ ≠ (.slice Ao26 t312.length co26 : Value).ownBlock)) (Kd.V_mono HV8.out (fun _ hk => ⟨hk.2, hk.1⟩)) hg hat); clear HV8; have HV8 := nv_; clear nv_; clear HO_25; clear HO_32; clear HB; clear HO_6; clear HO314; have HO_25 := n0_; have HO_32 := n1_; have HB := n2_; have HO317 := n3_; clear n0_ n1_ n2_ n3_; clear ho hb hg hat))
                go_roundg k3
                case measure => have := HK1.out; have := HK2.out; have := HK3.out; omega
                case rel => exact ⟨(y315), (wrap64 (x34_3 + 1)), sq, H', ⟨by have := HK1.out; have := HK2.out; have := HK3.out; omega⟩, ⟨by (with_reducible repeat (first | apply Kd.N_alloc | apply Kd.N_drewN | apply Kd.N_drew)); exact HO317.out⟩, ⟨by (with_reducible repeat (first | apply Kd.N_alloc | apply Kd.N_drewN | apply Kd.N_drew)); exact Kd.N_mono HO_25.out (fun _ hk => ⟨hk.2, hk.1.1⟩)⟩, ⟨by (with_reducible repeat (first | apply Kd.R_alloc | apply Kd.R_drewN | apply Kd.R_drew)); exact Kd.R_mono HO_32.out (fun _ hk => trivial)⟩, ⟨by (with_reducible repeat (first | apply Kd.V_alloc | apply Kd.V_drewN | apply Kd.V_drew)); exact Kd.V_mono HV8.out (fun _ hk => hk.2)⟩, ⟨bq⟩⟩
               ·rw [if_neg c23] at H
                exact absurd H (by simp)
              ·rw [if_neg c21] at H
               exact absurd H (by simp)
             ·rw [if_neg c20] at H
              exact absurd H (by simp)
            ·rw [if_neg c19] at H
             have c19b0 := decide_eq_false c19; clear c19; have H' := ak H; clear H; go_wp2; go_roundg k3
             case measure => have := HK1.out; have := HK2.out; have := HK3.out; omega
             case rel => exact ⟨(x6_3), (wrap64 (x27_2 + 1)), sq, H', ⟨by have := HK1.out; have := HK2.out; have := HK3.out; omega⟩, ⟨by (with_reducible repeat (first | apply Kd.N_alloc | apply Kd.N_drewN | apply Kd.N_drew)); exact Kd.N_mono HO_6.out (fun _ hk => hk.1)⟩, ⟨by (with_reducible repeat (first | apply Kd.N_alloc | apply Kd.N_drewN | apply Kd.N_drew)); exact Kd.N_mono HO_25.out (fun _ hk => hk.1)⟩, ⟨bq⟩⟩
         ·rw [if_neg c15] at H
          exact absurd H (by simp)
        ·rw [if_neg c14] at H
         exact absurd H (by simp)
       ·rw [if_neg c13] at H
        have c13b0 := decide_eq_false c13; clear c13; obtain ⟨t303, A270, H⟩ := Option.bind_eq_some_iff.mp H
        (try dsimp only at H)
        have A27 := ak A270; clear A270; obtain ⟨t304, A280, H⟩ := Option.bind_eq_some_iff.mp H
        (try dsimp only at H)
        have A28 := ak A280; clear A280; have H' := ak H; clear H; obtain ⟨Ao29, co29, eo29⟩ := Kd.N_slice HO_6.out; subst eo29
        go_wp2_with (first | ((with_reducible refine gate_callee (f := 81) rfl ?_); refine goesL_ (some 47) rfl rfl Try.func81 (by kernel_rfl) rfl #[.slice Ao29 x6_2.length co29, .func (.func 82) #[] #[]] rfl aq ?_; (with_reducible refine (slices_SortFunc_CountBodies_1.calls (fun k_ => some k_ ≠ (.slice Ao12 x5_1.length co12 : Value).ownBlock) (.slice Ao29 x6_2.length co29) x6_2 t303 w _ ?side1 ?side2 A27.out).mono ?_); (case side1 => exact bq); (case side2 => exact (by (with_reducible repeat (first | apply Kd.N_alloc | apply Kd.N_drewN | apply Kd.N_drew)); exact HO_6.out)); rintro e w30 ⟨rfl, hy0, hb⟩; refine ⟨_, rfl, ?_⟩; have n0_ := ak hy0; have n1_ := ak hb; clear HO_6 HO_25 HB; have HO_6 := n0_; have HB := n1_; clear n0_ n1_ hy0 hb) | ((with_reducible refine gate_callee (f := 85) rfl ?_); refine goesL_ (some 49) rfl rfl Try.func85 (by kernel_rfl) rfl #[.slice Ao29 x6_2.length co29, .func (.func 86) #[] #[]] rfl aq ?_; (with_reducible refine (slices_CompactFunc_CountBodies_2.calls k2 (fun k_ => some k_ ≠ (.slice Ao12 x5_1.length co12 : Value).ownBlock) (.slice Ao29 x6_2.length co29) t303 t304 w _ ?side1 ?side2 A28.out).mono ?_); (case side1 => exact bq); (case side2 => exact (by (with_reducible repeat (first | apply Kd.N_alloc | apply Kd.N_drewN | apply Kd.N_drew)); exact HO_6.out)); rintro e w31 ⟨v305, rfl, ho0, hb⟩; refine ⟨_, rfl, ?_⟩; have n0_ := ak ho0; have n1_ := ak hb; clear HO_6 HB; have HO306 := n0_; have HB := n1_; clear n0_ n1_ ho0 hb))
        go_roundg k2
        case measure => have := HK1.out; have := HK2.out; omega
        case rel => exact ⟨(t304), (wrap64 (x22_1 + 1)), sq, H', ⟨by have := HK1.out; have := HK2.out; omega⟩, ⟨by (with_reducible repeat (first | apply Kd.N_alloc | apply Kd.N_drewN | apply Kd.N_drew)); exact Kd.N_mono HO306.out (fun _ hk => trivial)⟩, ⟨bq⟩⟩
    ·rw [if_neg c9] at H
     have c9b0 := decide_eq_false c9; clear c9; have H' := ak H; clear H; obtain ⟨Ao32, co32, eo32⟩ := Kd.N_slice HO_5.out; subst eo32; go_wp2
     go_loopg [11, 53] k1 (fun kq v11 v53 w' => ∃ (x11_2 : Int) (x53_2 : Int), v11 = .int .i64 x11_2 ∧ v53 = .int .i64 x53_2 ∧ Aside0 (impl_CountBodies.l3 kq x5_1 x11_2 x5_1 (x5_1.length : Int) x53_2 = some (r1, r2, r3)) ∧ Aside0 (kq ≤ k1) ∧ Aside0 (Kd.N (Kd.slice 49 k49) 22 w' w.heap.size (fun _ => True) (.slice Ao32 x5_1.length co32) x5_1) ∧ Aside0 (Kd.N (Kd.slice 49 k49) 22 w' w.heap.size (fun _ => True) (.slice Ao32 x5_1.length co32) x5_1) ∧ Aside0 (Below w.heap.size w w'))
     case atStart => exact ⟨(0), (0), sq, sq, H', ⟨Nat.le_refl _⟩, ⟨by (with_reducible repeat (first | apply Kd.N_alloc | apply Kd.N_drewN | apply Kd.N_drew)); exact HO_5.out⟩, ⟨by (with_reducible repeat (first | apply Kd.N_alloc | apply Kd.N_drewN | apply Kd.N_drew)); exact HO_5.out⟩, ⟨bq⟩⟩
     case round =>
      clear H'; (try clear c1); (try clear c2); (try clear p2); (try clear c3); (try clear p3); (try clear q3); (try clear hx3); (try clear c6); (try clear p6); (try clear c7); (try clear c8); (try clear c9); (try clear c9b0); (try clear c13); (try clear c13b0); (try clear c14); (try clear c14b0); (try clear c15); (try clear c15b0); (try clear c19); (try clear c19b0); (try clear c20); (try clear c20b0); (try clear c21); (try clear c21b0); (try clear c23); (try clear c26); (try clear c30); (try clear p30); (try clear q30); (try clear hx30); (try clear p31); (try clear q31); (try clear hx31); (try clear hx307_0); (try clear hx311_0); (try clear hx311_1); (try clear p2); (try clear p3); (try clear p307); (try clear p311); (try clear p6); (try clear q3); (try clear q307); (try clear q311); obtain ⟨x11_2, x53_2, rfl, rfl, HA, HK2, HO_5, HO_51, HB⟩ := hrel
      cases gk with
      | zero => exact absurd HA.out (by simp [impl_CountBodies.l3])
      | succ k2 =>
       have H := HA.out; clear HA; simp only [impl_CountBodies.l3] at H
       by_cases c33 : x53_2 < (x5_1.length : Int)
       ·rw [if_pos c33] at H
        have c33b0 := decide_eq_true c33; clear c33
        by_cases c34 : 0 ≤ x53_2
        ·rw [if_pos c34] at H
         have c34b0 := decide_eq_true c34; clear c34
         by_cases c35 : x53_2 < (x5_1.length : Int)
         ·rw [if_pos c35] at H
          have c35b0 := decide_eq_true c35; clear c35; obtain ⟨t319, A360, H⟩ := Option.bind_eq_some_iff.mp H
          (try dsimp only at H)
          have A36 := ak A360; clear A360
          by_cases c37 : t319 = 0
          ·rw [if_pos c37] at H
           have c37b0 : (t319 == 0) = true := beq_iff_eq.mpr c37; have c37b1 : (t319 != 0) = false := bne_eq_false_iff_eq.mpr c37; clear c37; have H' := ak H; clear H; have p318 : 0 ≤ (x53_2 : Int) := dq; have q318 : x53_2 < (x5_1.length : Int) := dq; obtain ⟨ad318, A318_0, c318_0, e318, hx318_0, hl318_0, hi318_0⟩ := atB (Kd.N_reads' HO_51.out).2.2 x53_2 p318 q318; cases e318; obtain ⟨ce318, hce318, hMe318, hcc318⟩ := Kd.N_get HO_51.out [] x53_2 p318 (by first | exact q318 | exact dq | (have e_ := (Kd.N_reads' HO_51.out).1; omega)); obtain ⟨ua318_0, uc318_0, rfl, ul318_0, ge318_0⟩ := Kd.FK_slice_open hMe318; have hv318_0 := hcc318 0 _ rfl; rw [Nat.add_zero, show ((Kd.slice 49 k49)).sz = 1 from rfl, Nat.mul_one] at hv318_0; replace hv318_0 := Option.some.inj (hv318_0.symm.trans hx318_0)
           injection hv318_0 with hva_ hvn_ hvc_
           rw [hva_] at ge318_0; rw [hvc_] at ul318_0; have HL318_0 := ak (show Kd.V k49 49 _ w.heap.size _ _ (rdBd x5_1 x53_2) from Kd.V_mk ul318_0 ge318_0); clear hva_ hvn_ hvc_ ge318_0 ul318_0; clear hcc318 hce318; have HR318_0 := ak hi318_0; have HC318_0 := ak hl318_0; clear hi318_0 hl318_0; replace p318 := eq_true p318; replace q318 := eq_true q318
           go_wp2_with (first | ((with_reducible refine gate_callee (f := 76) rfl ?_); refine goesL_ (some 58) rfl rfl Try.func76 (by kernel_rfl) rfl #[.slice A318_0 (rdBd x5_1 x53_2).length c318_0] rfl aq ?_; (with_reducible refine (impl_bodySide.calls k2 _ _ (rdBd x5_1 x53_2) t319 _ ?side1 ?side2 A36.out).mono ?_); (case side1 => exact cq (by repeat (first | (with_reducible exact HR318_0.out) | (with_reducible refine Kd.C_alloc ?_ _) | (with_reducible refine Kd.C_drewN ?_ _) | (with_reducible refine Kd.C_drew ?_) | exact HR318_0.out))); (case side2 => exact HC318_0.out); rintro e w38 ⟨rfl, hb⟩; refine ⟨_, rfl, ?_⟩; have n0_ := ak (Kd.N_below (by (with_reducible repeat (first | apply Kd.N_alloc | apply Kd.N_drewN | apply Kd.N_drew)); exact HO_5.out) hb); have n1_ := ak (Kd.N_below (by (with_reducible repeat (first | apply Kd.N_alloc | apply Kd.N_drewN | apply Kd.N_drew)); exact HO_51.out) hb); have n2_ := ak (Kd.V_below (by (with_reducible repeat (first | apply Kd.V_alloc | apply Kd.V_drewN | apply Kd.V_drew)); exact HL318_0.out) hb); have n3_ := ak (Kd.C_below (by repeat (first | (with_reducible exact HR318_0.out) | (with_reducible refine Kd.C_alloc ?_ _) | (with_reducible refine Kd.C_drewN ?_ _) | (with_reducible refine Kd.C_drew ?_) | exact HR318_0.out)) hb); have n4_ := ak (below_step bq hb); clear HO_5; clear HO_51; clear HL318_0; clear HR318_0; clear HB; have HO_5 := n0_; have HO_51 := n1_; have HL318_0 := n2_; have HR318_0 := n3_; have HB := n4_; clear n0_ n1_ n2_ n3_ n4_; (try clear hb); (try clear hb2); (try clear hk); (try clear hi)))
           go_roundg k2
           case measure => have := HK1.out; have := HK2.out; omega
           case rel => exact ⟨(wrap64 (x11_2 + 1)), (wrap64 (x53_2 + 1)), sq, sq, H', ⟨by have := HK1.out; have := HK2.out; omega⟩, ⟨by (with_reducible repeat (first | apply Kd.N_alloc | apply Kd.N_drewN | apply Kd.N_drew)); exact HO_5.out⟩, ⟨by (with_reducible repeat (first | apply Kd.N_alloc | apply Kd.N_drewN | apply Kd.N_drew)); exact HO_51.out⟩, ⟨bq⟩⟩
          ·rw [if_neg c37] at H
           have c37b0 : (t319 == 0) = false := beq_eq_false_iff_ne.mpr c37; have c37b1 : (t319 != 0) = true := bne_iff_ne.mpr c37; have H' := ak H; clear H; have p318 : 0 ≤ (x53_2 : Int) := dq; have q318 : x53_2 < (x5_1.length : Int) := dq; obtain ⟨ad318, A318_0, c318_0, e318, hx318_0, hl318_0, hi318_0⟩ := atB (Kd.N_reads' HO_51.out).2.2 x53_2 p318 q318; cases e318; obtain ⟨ce318, hce318, hMe318, hcc318⟩ := Kd.N_get HO_51.out [] x53_2 p318 (by first | exact q318 | exact dq | (have e_ := (Kd.N_reads' HO_51.out).1; omega)); obtain ⟨ua318_0, uc318_0, rfl, ul318_0, ge318_0⟩ := Kd.FK_slice_open hMe318; have hv318_0 := hcc318 0 _ rfl; rw [Nat.add_zero, show ((Kd.slice 49 k49)).sz = 1 from rfl, Nat.mul_one] at hv318_0; replace hv318_0 := Option.some.inj (hv318_0.symm.trans hx318_0)
           injection hv318_0 with hva_ hvn_ hvc_
           rw [hva_] at ge318_0; rw [hvc_] at ul318_0; have HL318_0 := ak (show Kd.V k49 49 _ w.heap.size _ _ (rdBd x5_1 x53_2) from Kd.V_mk ul318_0 ge318_0); clear hva_ hvn_ hvc_ ge318_0 ul318_0; clear hcc318 hce318; have HR318_0 := ak hi318_0; have HC318_0 := ak hl318_0; clear hi318_0 hl318_0; replace p318 := eq_true p318; replace q318 := eq_true q318
           go_wp2_with (first | ((with_reducible refine gate_callee (f := 76) rfl ?_); refine goesL_ (some 58) rfl rfl Try.func76 (by kernel_rfl) rfl #[.slice A318_0 (rdBd x5_1 x53_2).length c318_0] rfl aq ?_; (with_reducible refine (impl_bodySide.calls k2 _ _ (rdBd x5_1 x53_2) t319 _ ?side1 ?side2 A36.out).mono ?_); (case side1 => exact cq (by repeat (first | (with_reducible exact HR318_0.out) | (with_reducible refine Kd.C_alloc ?_ _) | (with_reducible refine Kd.C_drewN ?_ _) | (with_reducible refine Kd.C_drew ?_) | exact HR318_0.out))); (case side2 => exact HC318_0.out); rintro e w39 ⟨rfl, hb⟩; refine ⟨_, rfl, ?_⟩; have n0_ := ak (Kd.N_below (by (with_reducible repeat (first | apply Kd.N_alloc | apply Kd.N_drewN | apply Kd.N_drew)); exact HO_5.out) hb); have n1_ := ak (Kd.N_below (by (with_reducible repeat (first | apply Kd.N_alloc | apply Kd.N_drewN | apply Kd.N_drew)); exact HO_51.out) hb); have n2_ := ak (Kd.V_below (by (with_reducible repeat (first | apply Kd.V_alloc | apply Kd.V_drewN | apply Kd.V_drew)); exact HL318_0.out) hb); have n3_ := ak (Kd.C_below (by repeat (first | (with_reducible exact HR318_0.out) | (with_reducible refine Kd.C_alloc ?_ _) | (with_reducible refine Kd.C_drewN ?_ _) | (with_reducible refine Kd.C_drew ?_) | exact HR318_0.out)) hb); have n4_ := ak (below_step bq hb); clear HO_5; clear HO_51; clear HL318_0; clear HR318_0; clear HB; have HO_5 := n0_; have HO_51 := n1_; have HL318_0 := n2_; have HR318_0 := n3_; have HB := n4_; clear n0_ n1_ n2_ n3_ n4_; (try clear hb); (try clear hb2); (try clear hk); (try clear hi)))
           go_roundg k2
           case measure => have := HK1.out; have := HK2.out; omega
           case rel => exact ⟨(x11_2), (wrap64 (x53_2 + 1)), sq, sq, H', ⟨by have := HK1.out; have := HK2.out; omega⟩, ⟨by (with_reducible repeat (first | apply Kd.N_alloc | apply Kd.N_drewN | apply Kd.N_drew)); exact HO_5.out⟩, ⟨by (with_reducible repeat (first | apply Kd.N_alloc | apply Kd.N_drewN | apply Kd.N_drew)); exact HO_51.out⟩, ⟨bq⟩⟩
         ·rw [if_neg c35] at H
          exact absurd H (by simp)
        ·rw [if_neg c34] at H
         exact absurd H (by simp)
       ·rw [if_neg c33] at H
        have c33b0 := decide_eq_false c33; clear c33; simp only [Option.some.injEq, Prod.mk.injEq] at H; obtain ⟨rfl, rfl, rfl⟩ := H; go_wp2
        go_ret3
        exact ⟨eq_, bq⟩
 ·replace c3 := Bool.eq_false_iff.mpr c3
  subst c3; rw [if_neg (show ¬ (false = true) by decide)] at H; simp only [Option.some.injEq, Prod.mk.injEq] at H; obtain ⟨rfl, rfl, rfl⟩ := H
  go_enter Try.func26, Try.ntmps26
  go_wp2_with (first | ((with_reducible refine gate_callee (f := 69) rfl ?_); refine goesL_ (some 15) rfl rfl Try.func69 (by kernel_rfl) rfl #[.int .i64 a0, .int .i64 1, .int .i64 6] rfl aq ?_; (with_reducible refine (impl_within.calls a0 1 6 false _ A2.out).mono ?_); rintro e w' ⟨rfl, ⟨nd, rfl⟩⟩; refine ⟨_, rfl, ?_⟩))
  go_ret3
  exact ⟨eq_, bq⟩

end Go.Proofs.Ytckhmeadflafaaa.XCb
