/- Functions of the program as plain Lean functions, each with the proof that the machine's call does what it says: written by a program of this session out of the translation. -/
import Derived.Test.YtckhmeadflafaaaGreatXFcx0
import Derived.Test.YtckhmeadflafaaaGreatXFcx2
import Derived.Test.YtckhmeadflafaaaGreatXFcx5
import Derived.Test.YtckhmeadflafaaaGreatXFcx6
import Derived.Test.YtckhmeadflafaaaGreatXFcx7
import Derived.Test.YtckhmeadflafaaaGreatXFcx1
import Derived.Test.YtckhmeadflafaaaGreatXFcx4
import Derived.Test.YtckhmeadflafaaaGreatXFcx3
namespace Go.Proofs.YtckhmeadflafaaaGreat.XFc
open Go.RowKit Go.Proofs.YtckhmeadflafaaaGreatW.PrintWords Go.Proofs.YtckhmeadflafaaaGreatW.PrintLast Go.Proofs.YtckhmeadflafaaaGreatW.PrintMore
attribute [local go_sem] max2_int min2_int max_two min_two max_three min_three max_four min_four   -- for this text's walks alone
set_option linter.unusedVariables false
set_option linter.unusedSimpArgs false
set_option maxHeartbeats 8000000
set_option maxRecDepth 100000
/-! ### impl_CountBodies: function 17, by hand -/
theorem atB {w : World} {A : Option Addr} {n : Nat} {xs : List (List (S37))} (h : Kd.C (Kd.slice 37 k37) w A n xs) (i : Int) (h0 : 0 ≤ i) (h1 : i < n) : ∃ ad A0 c0, A = some ad ∧ w.cell? (ad.add i.toNat) = some (.slice A0 (rdBd xs i).length c0) ∧ (rdBd xs i).length ≤ c0 ∧ Kd.C k37 w A0 (rdBd xs i).length (rdBd xs i) := by
 obtain ⟨ad, c, e, _, hK, hc0⟩ := Kd.C_get h ([] : List (S37)) i h0 h1; have hc : ∀ j u, c[j]? = some u → w.cell? (ad.add (i.toNat * 1 + j)) = some u := hc0; obtain ⟨A0, c0, rfl, l0, g0⟩ := hK; exact ⟨ad, A0, c0, e, by have hq := hc 0 _ rfl; rwa [Nat.mul_one, Nat.add_zero] at hq, l0, g0⟩
mutual
def impl_CountBodies.l0 : Nat → List (List (S37)) → Int → Int → Option (Int × Int × Bool)
 | 0, _, _, _ => none
 | k + 1, x5, x21, x22 => if x22 < x21 then (impl_CountBodies.l1 k (([] : List (List (S37)))) x21 x22 x5 (x5.length : Int) 0) else (impl_CountBodies.l3 k x5 0 x5 (x5.length : Int) 0)
def impl_CountBodies.l1 : Nat → List (List (S37)) → Int → Int → List (List (S37)) → Int → Int → Option (Int × Int × Bool)
 | 0, _, _, _, _, _, _ => none
 | k + 1, x6, x21, x22, x25, x26, x27 => if x27 < x26 then (if 0 ≤ x27 then (if x27 < (x25.length : Int) then ((impl_besides.f k (rdBd x25 x27)).bind fun t308 => (impl_CountBodies.l2 k x6 (rdBd x25 x27) x21 x22 x25 x26 x27 t308 (t308.length : Int) 0)) else (none)) else (none)) else ((slices_SortFunc_CountBodies_1.f x6).bind fun t303 => ((slices_CompactFunc_CountBodies_2.f k t303).bind fun t304 => (impl_CountBodies.l0 k t304 x21 (wrap64 (x22 + 1)))))
def impl_CountBodies.l2 : Nat → List (List (S37)) → List (S37) → Int → Int → List (List (S37)) → Int → Int → List (S37) → Int → Int → Option (Int × Int × Bool)
 | 0, _, _, _, _, _, _, _, _, _, _ => none
 | k + 1, x6, x8, x21, x22, x25, x26, x27, x32, x33, x34 => if x34 < x33 then (if 0 ≤ x34 then (if x34 < (x32.length : Int) then ((impl_withCell.f k x8 ((rd_T37 x32 x34).f0) ((rd_T37 x32 x34).f1)).bind fun t312 => (if x6.length < 5864062014805 then (impl_CountBodies.l2 k (x6 ++ [t312]) x8 x21 x22 x25 x26 x27 x32 x33 (wrap64 (x34 + 1))) else (none))) else (none)) else (none)) else (impl_CountBodies.l1 k x6 x21 x22 x25 x26 (wrap64 (x27 + 1)))
def impl_CountBodies.l3 : Nat → List (List (S37)) → Int → List (List (S37)) → Int → Int → Option (Int × Int × Bool)
 | 0, _, _, _, _, _ => none
 | k + 1, x5, x11, x51, x52, x53 => if x53 < x52 then (if 0 ≤ x53 then (if x53 < (x51.length : Int) then ((impl_bodySide.f k (rdBd x51 x53)).bind fun t319 => (if t319 = 0 then (impl_CountBodies.l3 k x5 (wrap64 (x11 + 1)) x51 x52 (wrap64 (x53 + 1))) else (impl_CountBodies.l3 k x5 x11 x51 x52 (wrap64 (x53 + 1))))) else (none)) else (none)) else (some ((x5.length : Int), x11, true))
end
def impl_CountBodies.f (k : Nat) (a0 : Int) : Option (Int × Int × Bool) := (impl_within.f a0 1 6).bind fun t293 => (if t293 = true then (impl_CountBodies.l0 k (([(([(⟨0, 0⟩ : S37)] : List (S37)))] : List (List (S37)))) (wrap64 (a0 - 1)) 0) else (some (0, 0, false)))
theorem impl_CountBodies.calls (k : Nat) (a0 : Int) (r1 : Int) (r2 : Int) (r3 : Bool) (w : World) (h : impl_CountBodies.f k a0 = some (r1, r2, r3)) :
  Calls Tryz.prog 17 #[.int .i64 a0] w fun e w' => e = .returned (.tuple #[.int .i64 r1, .int .i64 r2, .bool r3]) ∧ Below w.heap.size w w' := by
 have hu_ := Tryz.underlying37; have HB := ak (Below.refl w.heap.size w); have H : ((impl_within.f a0 1 6).bind fun t293 => (if t293 = true then (impl_CountBodies.l0 k (([(([(⟨0, 0⟩ : S37)] : List (S37)))] : List (List (S37)))) (wrap64 (a0 - 1)) 0) else (some (0, 0, false)))) = some (r1, r2, r3) := h; clear h; obtain ⟨t293, A20, H⟩ := Option.bind_eq_some_iff.mp H
 have A2 := ak A20; clear A20
 by_cases c3 : t293 = true
 ·subst c3
  rw [if_pos rfl] at H; obtain ⟨y294, hy294⟩ : ∃ y_ : List (S37), y_ = (([(⟨0, 0⟩ : S37)] : List (S37))) := ⟨_, rfl⟩
  replace H : (impl_CountBodies.l0 k (([y294] : List (List (S37)))) (wrap64 (a0 - 1)) 0) = some (r1, r2, r3) := by first | (rw [hy294]; with_reducible exact H) | (have H2_ := (Option.bind_some _ _).symm.trans H; rw [hy294]; with_reducible exact H2_) | (have H2_ := (Option.bind_some _ _).symm.trans H; with_reducible exact H2_) | with_reducible exact H | (rw [hy294]; exact H) | exact H
  have Ny294 := ak hy294; clear hy294; obtain ⟨y297, hy297⟩ : ∃ y_ : List (List (S37)), y_ = (([y294] : List (List (S37)))) := ⟨_, rfl⟩
  replace H : (impl_CountBodies.l0 k y297 (wrap64 (a0 - 1)) 0) = some (r1, r2, r3) := by first | (rw [hy297]; with_reducible exact H) | (have H2_ := (Option.bind_some _ _).symm.trans H; rw [hy297]; with_reducible exact H2_) | (have H2_ := (Option.bind_some _ _).symm.trans H; with_reducible exact H2_) | with_reducible exact H | (rw [hy297]; exact H) | exact H
  have Ny297 := ak hy297; clear hy297; have H' := ak H; clear H
  go_enter Tryz.func17, Tryz.ntmps17
  go_wp2_with (first | ((with_reducible refine gate_callee (f := 26) rfl ?_); refine goesL_ (some 15) rfl rfl Tryz.func26 (by kernel_rfl) rfl #[.int .i64 a0, .int .i64 1, .int .i64 6] rfl aq ?_; (with_reducible refine (impl_within.calls a0 1 6 true _ A2.out).mono ?_); rintro e w' ⟨rfl, ⟨nd, rfl⟩⟩; refine ⟨_, rfl, ?_⟩) | ((with_reducible refine gate_dst (N := 18) rfl ?_); refine Kd.R_lit k37 _ 37 ?hg (N := 18) ?hd (xs := ([(⟨0, 0⟩ : S37)] : List (S37))) (inner := [.int .i64 0, .int .i64 0]) (ok := fun _ => True) (okp := fun _ => True) ?hr ?hp (fun _ hk => hk) trivial (Below.refl _ _) (Nat.le_refl _) (by simp) ?_; (case hd => rfl); (case hg => rfl); (case hr => (go_simp; done)); (case hp => exact (Reps.c2 (show Kd.M k37 _ _ _ (⟨0, 0⟩ : S37) [.int .i64 0, .int .i64 0] from (k37_mkM _ _ _ (⟨0, 0⟩ : S37) )) (Reps.none _ _))); intro v295 w4 ho5 hb hg_ hnew_; clear hg_ hnew_; (rw [← Ny294.out] at ho5); have n0_ := ak (Kd.R_lower ho5 (below_size bq)); have n1_ := ak (below_step bq hb); clear HB; have HO296 := n0_; have HB := n1_; clear n0_ n1_; clear hb ho5; obtain ⟨Ao6, co6, eo6⟩ := Kd.R_slice HO296.out; subst eo6) | ((with_reducible refine gate_dst (N := 19) rfl ?_); refine Kd.N_lit (Kd.slice 37 k37) _ 24 ?hg (N' := 19) ?hd (xs := ([y294] : List (List (S37)))) (inner := [.slice Ao6 y294.length co6]) (ok := (fun _ => True)) (okp := (fun _ => True)) ?hr ?hp (fun _ hk => hk) ((show ∀ k_, w4.heap.size ≤ k_ → (fun _ => True) k_ from fun k_ hk => trivial) _ (Nat.le_refl _)) (Below.refl _ _) (Nat.le_refl _) (by simp) ?_; (case hd => rfl); (case hg => rfl); (case hr => (go_simp; done)); (case hp => exact (Reps.one (show Kd.FK (Kd.slice 37 k37) _ _ y294 [.slice Ao6 y294.length co6] from (Kd.FK_slice_mk (Kd.R_reads' (Kd.R_mono (ok' := (fun _ => True)) (HO296.out) (fun k_ hk => trivial))).2.1 (Kd.R_F (Kd.R_mono (ok' := (fun _ => True)) (HO296.out) (fun k_ hk => trivial))))) (Reps.none _ _))); intro v298 w7 ho8 hb hg_ hnew_; clear hg_ hnew_; (rw [← Ny297.out] at ho8); have n0_ := ak (Kd.N_lower ho8 (below_size bq)); have n1_ := ak (below_step bq hb); clear HB; clear HO296; have HO299 := n0_; have HB := n1_; clear n0_ n1_; clear hb ho8))
  go_loopg [5, 22] k (fun kq v5 v22 w' => ∃ (x5_1 : List (List (S37))) (x22_1 : Int), v22 = .int .i64 x22_1 ∧ Aside0 (impl_CountBodies.l0 kq x5_1 (wrap64 (a0 - 1)) x22_1 = some (r1, r2, r3)) ∧ Aside0 (kq ≤ k) ∧ Aside0 (Kd.N (Kd.slice 37 k37) 24 w' w.heap.size (fun _ => True) v5 x5_1) ∧ Aside0 (Below w.heap.size w w'))
  case atStart => exact ⟨(y297), (0), sq, H', ⟨Nat.le_refl _⟩, ⟨by exact HO299.out⟩, ⟨bq⟩⟩
  case round =>
   clear H'; obtain ⟨x5_1, x22_1, rfl, HA, HK1, HO_5, HB⟩ := hrel
   cases gk with
   | zero => exact absurd HA.out (by simp [impl_CountBodies.l0])
   | succ k1 =>
    have H := HA.out; clear HA; simp only [impl_CountBodies.l0] at H
    by_cases c9 : x22_1 < (wrap64 (a0 - 1))
    ·rw [if_pos c9] at H
     have c9b0 := decide_eq_true c9; clear c9; obtain ⟨y300, hy300⟩ : ∃ y_ : List (List (S37)), y_ = (([] : List (List (S37)))) := ⟨_, rfl⟩
     replace H : (impl_CountBodies.l1 k1 y300 (wrap64 (a0 - 1)) x22_1 x5_1 (x5_1.length : Int) 0) = some (r1, r2, r3) := by first | (rw [hy300]; with_reducible exact H) | (have H2_ := (Option.bind_some _ _).symm.trans H; rw [hy300]; with_reducible exact H2_) | (have H2_ := (Option.bind_some _ _).symm.trans H; with_reducible exact H2_) | with_reducible exact H | (rw [hy300]; exact H) | exact H
     have Ny300 := ak hy300; clear hy300; have H' := ak H; clear H
     go_wp2_with (((with_reducible refine gate_dst (N := 24) rfl ?_); refine Kd.N_lit (Kd.slice 37 k37) _ 24 ?hg (N' := 24) ?hd (xs := ([] : List (List (S37)))) (inner := []) (ok := (fun k_ => some k_ ≠ (u5 : Value).ownBlock)) (okp := (fun k_ => some k_ ≠ (u5 : Value).ownBlock)) ?hr ?hp (fun _ hk => hk) ((show ∀ k_, wr.heap.size ≤ k_ → (fun k_ => some k_ ≠ (u5 : Value).ownBlock) k_ from fun k_ hk => Kd.fresh' (Kd.N_lt (by exact HO_5.out)) k_ hk) _ (Nat.le_refl _)) (Below.refl _ _) (Nat.le_refl _) (by simp) ?_; (case hd => rfl); (case hg => rfl); (case hr => (go_simp; done)); (case hp => exact (Reps.none _ _)); intro v301 w10 ho11 hb hg_ hnew_; clear hg_ hnew_; (rw [← Ny300.out] at ho11); have n0_ := ak (Kd.N_elder' (by exact HO_5.out) (Kd.N_base ho11) hb); have n1_ := ak (Kd.N_lower ho11 (below_size bq)); have n2_ := ak (below_step bq hb); clear HO_5; clear HB; have HO_5 := n0_; have HO302 := n1_; have HB := n2_; clear n0_ n1_ n2_; clear hb ho11; obtain ⟨Ao12, co12, eo12⟩ := Kd.N_slice HO_5.out; subst eo12))
     go_loopg [6, 27] k1 (fun kq v6 v27 w' => ∃ (x6_2 : List (List (S37))) (x27_2 : Int), v27 = .int .i64 x27_2 ∧ Aside0 (impl_CountBodies.l1 kq x6_2 (wrap64 (a0 - 1)) x22_1 x5_1 (x5_1.length : Int) x27_2 = some (r1, r2, r3)) ∧ Aside0 (kq ≤ k1) ∧ Aside0 (Kd.N (Kd.slice 37 k37) 24 w' w.heap.size (fun k_ => some k_ ≠ ((.slice Ao12 x5_1.length co12) : Value).ownBlock) v6 x6_2) ∧ Aside0 (Kd.N (Kd.slice 37 k37) 24 w' w.heap.size (fun k_ => some k_ ≠ (v6 : Value).ownBlock) (.slice Ao12 x5_1.length co12) x5_1) ∧ Aside0 (Below w.heap.size w w'))
     case atStart => exact ⟨(y300), (0), sq, H', ⟨Nat.le_refl _⟩, ⟨by exact HO302.out⟩, ⟨by exact Kd.N_mono HO_5.out (fun _ hk => hk.2)⟩, ⟨bq⟩⟩
     case round =>
      clear H'; (try clear c9b0); obtain ⟨x6_2, x27_2, rfl, HA, HK2, HO_6, HO_25, HB⟩ := hrel
      cases gk with
      | zero => exact absurd HA.out (by simp [impl_CountBodies.l1])
      | succ k2 =>
       have H := HA.out; clear HA; simp only [impl_CountBodies.l1] at H
       by_cases c13 : x27_2 < (x5_1.length : Int)
       ·rw [if_pos c13] at H
        have c13b0 := decide_eq_true c13; clear c13
        revert H; refine ig_ fun c14 H => ?_
        have c14b0 := decide_eq_true c14; clear c14
        revert H; refine ig_ fun c15 H => ?_
        have c15b0 := decide_eq_true c15; clear c15; obtain ⟨t308, A160, H⟩ := Option.bind_eq_some_iff.mp H
        have A16 := ak A160; clear A160; have H' := ak H; clear H; have p307 : 0 ≤ (x27_2 : Int) := dq; have q307 : x27_2 < (x5_1.length : Int) := dq; obtain ⟨ad307, A307_0, c307_0, e307, hx307_0, hl307_0, hi307_0⟩ := atB (Kd.N_reads' HO_25.out).2.2 x27_2 p307 q307; cases e307; obtain ⟨ce307, hce307, hMe307, hcc307⟩ := Kd.N_get HO_25.out [] x27_2 p307 (by exact q307); obtain ⟨ua307_0, uc307_0, rfl, ul307_0, ge307_0⟩ := Kd.FK_slice_open hMe307; have hv307_0 := hcc307 0 _ rfl; rw [Nat.add_zero, show ((Kd.slice 37 k37)).sz = 1 from rfl, Nat.mul_one] at hv307_0; replace hv307_0 := Option.some.inj (hv307_0.symm.trans hx307_0)
        injection hv307_0 with hva_ hvn_ hvc_
        rw [hva_] at ge307_0; rw [hvc_] at ul307_0; have HL307_0 := ak (show Kd.V k37 37 _ w.heap.size _ _ (rdBd x5_1 x27_2) from Kd.V_mk ul307_0 ge307_0); clear hva_ hvn_ hvc_ ge307_0 ul307_0; clear hcc307 hce307; have HR307_0 := ak hi307_0; have HC307_0 := ak hl307_0; clear hi307_0 hl307_0; replace p307 := eq_true p307; replace q307 := eq_true q307
        go_wp2_with (((with_reducible refine gate_callee (f := 34) rfl ?_); refine goesL_ (some 32) rfl rfl Tryz.func34 (by kernel_rfl) rfl #[.slice A307_0 (rdBd x5_1 x27_2).length c307_0] rfl aq ?_; (with_reducible refine (impl_besides.calls k2 _ _ (rdBd x5_1 x27_2) t308 _ ?side1 ?side2 A16.out).mono ?_); (case side1 => exact cq (by repeat ((with_reducible exact HR307_0.out)))); (case side2 => exact HC307_0.out); rintro e w17 ⟨v309, rfl, ho0, hb⟩; refine ⟨_, rfl, ?_⟩; have n0_ := ak (Kd.N_elder' (by exact HO_6.out) (Kd.R_base ho0) hb); have n1_ := ak (Kd.N_elder' (by exact HO_25.out) (Kd.R_base ho0) hb); have n2_ := ak (Kd.V_elder' (by exact HL307_0.out) (Kd.R_base ho0) hb); have n3_ := ak (Kd.R_lower ho0 (below_size bq)); have n4_ := ak (Kd.C_below (by repeat ((with_reducible exact HR307_0.out))) hb); have n5_ := ak (below_step bq hb); clear HO_6; clear HO_25; clear HL307_0; clear HR307_0; clear HB; have HO_6 := n0_; have HO_25 := n1_; have HL307_0 := n2_; have HO310 := n3_; have HR307_0 := n4_; have HB := n5_; clear n0_ n1_ n2_ n3_ n4_ n5_; (try clear hb); (try clear ho0); obtain ⟨Ao18, co18, eo18⟩ := Kd.R_slice HO310.out; subst eo18))
        go_loopg [6, 34] k2 (fun kq v6 v34 w' => ∃ (x6_3 : List (List (S37))) (x34_3 : Int), v34 = .int .i64 x34_3 ∧ Aside0 (impl_CountBodies.l2 kq x6_3 (rdBd x5_1 x27_2) (wrap64 (a0 - 1)) x22_1 x5_1 (x5_1.length : Int) x27_2 t308 (t308.length : Int) x34_3 = some (r1, r2, r3)) ∧ Aside0 (kq ≤ k2) ∧ Aside0 (Kd.N (Kd.slice 37 k37) 24 w' w.heap.size (fun k_ => some k_ ≠ ((.slice (some ad307) x5_1.length co12) : Value).ownBlock ∧ some k_ ≠ ((.slice Ao18 t308.length co18) : Value).ownBlock) v6 x6_3) ∧ Aside0 (Kd.N (Kd.slice 37 k37) 24 w' w.heap.size (fun k_ => some k_ ≠ (v6 : Value).ownBlock ∧ some k_ ≠ ((.slice Ao18 t308.length co18) : Value).ownBlock) (.slice (some ad307) x5_1.length co12) x5_1) ∧ Aside0 (Kd.R k37 37 w' w.heap.size (fun _ => True) (.slice Ao18 t308.length co18) t308) ∧ Aside0 (Kd.V k37 37 w' w.heap.size (fun k_ => some k_ ≠ (v6 : Value).ownBlock) (.slice A307_0 (rdBd x5_1 x27_2).length c307_0) (rdBd x5_1 x27_2)) ∧ Aside0 (Below w.heap.size w w'))
        case atStart => exact ⟨(x6_2), (0), sq, H', ⟨Nat.le_refl _⟩, ⟨by exact HO_6.out⟩, ⟨by exact HO_25.out⟩, ⟨rq HO310⟩, ⟨by exact Kd.V_mono HL307_0.out (fun _ hk => hk.1.1)⟩, ⟨bq⟩⟩
        case round =>
         clear H'; (try clear c13b0); (try clear c14b0); (try clear c15b0); (try clear hx307_0); (try clear p307); (try clear q307); obtain ⟨x6_3, x34_3, rfl, HA, HK3, HO_6, HO_25, HO_32, HV8, HB⟩ := hrel
         cases gk with
         | zero => exact absurd HA.out (by simp [impl_CountBodies.l2])
         | succ k3 =>
          have H := HA.out; clear HA; simp only [impl_CountBodies.l2] at H
          by_cases c19 : x34_3 < (t308.length : Int)
          ·rw [if_pos c19] at H
           have c19b0 := decide_eq_true c19; clear c19
           revert H; refine ig_ fun c20 H => ?_
           have c20b0 := decide_eq_true c20; clear c20
           revert H; refine ig_ fun c21 H => ?_
           have c21b0 := decide_eq_true c21; clear c21; obtain ⟨t312, A220, H⟩ := Option.bind_eq_some_iff.mp H
           have A22 := ak A220; clear A220
           revert H; refine ig_ fun c23 H => ?_
           have LMc23 := ak c23; clear c23; obtain ⟨y315, hy315⟩ : ∃ y_ : List (List (S37)), y_ = (x6_3 ++ [t312]) := ⟨_, rfl⟩
           replace H : (impl_CountBodies.l2 k3 y315 (rdBd x5_1 x27_2) (wrap64 (a0 - 1)) x22_1 x5_1 (x5_1.length : Int) x27_2 t308 (t308.length : Int) (wrap64 (x34_3 + 1))) = some (r1, r2, r3) := by first | (rw [hy315]; with_reducible exact H) | (have H2_ := (Option.bind_some _ _).symm.trans H; rw [hy315]; with_reducible exact H2_) | (have H2_ := (Option.bind_some _ _).symm.trans H; with_reducible exact H2_) | with_reducible exact H | (rw [hy315]; exact H) | exact H
           have Ny315 := ak hy315; clear hy315; have H' := ak H; clear H; have p311 : 0 ≤ (x34_3 : Int) := dq; have q311 : x34_3 < (t308.length : Int) := dq; obtain ⟨ad311, e311, hx311_0, hx311_1⟩ := at_T37 (Kd.R_reads' HO_32.out).2.2 x34_3 p311 q311; cases e311; replace p311 := eq_true p311; replace q311 := eq_true q311
           go_wp2_with (first | ((with_reducible refine gate_dst (N := 10) rfl ?_); refine box_event ?hg (N := 10) ?hd (cs := #[.int .i64 0, .int .i64 0]) (t := 37) ?hr ?_; (case hd => rfl); (case hg => rfl); (case hr => (go_simp; done)); intro gb10 hg w10b hbox hb; obtain ⟨w2b, hw2b⟩ : ∃ w2b, (w10b.setCell ⟨gb10, 0, none⟩ (.int .i64 ((rd_T37 t308 x34_3).f0))).setCell ⟨gb10, 1, none⟩ (.int .i64 ((rd_T37 t308 x34_3).f1)) = w2b := ⟨_, rfl⟩; have hb2 : Below wr.heap.size wr w2b := (by rw [← hw2b]; exact below_set (below_set hb (Nat.le_of_eq hg.symm)) (Nat.le_of_eq hg.symm)); have hk2 : w2b.heap[gb10]? = some (.cells #[.int .i64 ((rd_T37 t308 x34_3).f0), .int .i64 ((rd_T37 t308 x34_3).f1)] 37 (0, 0)) := (by rw [← hw2b]; exact blk_put (cs := #[.int .i64 ((rd_T37 t308 x34_3).f0), .int .i64 0]) (blk_put (cs := #[.int .i64 0, .int .i64 0]) hbox 0 _ rfl) 1 _ rfl); have hcz_0 : w10b.cell? ⟨gb10, 0, none⟩ = some (.int .i64 0) := (blk_cell hbox 0).trans rfl; have hcz_1 : w10b.cell? ⟨gb10, 1, none⟩ = some (.int .i64 0) := (blk_cell hbox 1).trans rfl; have hfz_0 := blk_frozen hbox 0; have hfz_1 := blk_frozen hbox 1; have hcy_0 : w2b.cell? ⟨gb10, 0, none⟩ = some (.int .i64 ((rd_T37 t308 x34_3).f0)) := (blk_cell hk2 0).trans rfl; have hcy_1 : w2b.cell? ⟨gb10, 1, none⟩ = some (.int .i64 ((rd_T37 t308 x34_3).f1)) := (blk_cell hk2 1).trans rfl; have n0_ := ak (Kd.N_below (by exact HO_6.out) hb2); have n1_ := ak (Kd.N_below (by exact HO_25.out) hb2); have n2_ := ak (Kd.R_below (rq HO_32) hb2); have n3_ := ak (Kd.V_below (by exact HV8.out) hb2); have n4_ := ak (below_step bq hb2); clear HO_6 HO_25 HO_32 HV8 HB hb2 hk2 hbox hb hg; have HO_6 := n0_; have HO_25 := n1_; have HO_32 := n2_; have HV8 := n3_; have HB := n4_; clear n0_ n1_ n2_ n3_ n4_) | ((with_reducible refine gate_callee (f := 36) rfl ?_); refine goesL_ (some 41) rfl rfl Tryz.func36 (by kernel_rfl) rfl #[.slice A307_0 (rdBd x5_1 x27_2).length c307_0, .agg #[.int .i64 ((rd_T37 t308 x34_3).f0), .int .i64 ((rd_T37 t308 x34_3).f1)]] rfl aq ?_; (with_reducible refine (impl_withCell.calls k3 _ _ (rdBd x5_1 x27_2) ((rd_T37 t308 x34_3).f0) ((rd_T37 t308 x34_3).f1) t312 _ ?side1 ?side2 A22.out).mono ?_); (case side1 => exact (Kd.V_reads' HV8.out).2.2); (case side2 => exact HC307_0.out); rintro e w24 ⟨v313, rfl, ho0, hb⟩; refine ⟨_, rfl, ?_⟩; have n0_ := ak (Kd.N_elder' (by exact HO_6.out) (Kd.R_base ho0) hb); have n1_ := ak (Kd.N_elder' (by exact HO_25.out) (Kd.R_base ho0) hb); have n2_ := ak (Kd.R_elder' (rq HO_32) (Kd.R_base ho0) hb); have n3_ := ak (Kd.R_lower (Kd.R_new' ho0 (Kd.R_lt (rq HO_32))) (below_size bq)); have n4_ := ak (below_step bq hb); have nv_ := ak (Kd.V_elder' (by exact HV8.out) (Kd.R_base ho0) hb); clear HV8; have HV8 := nv_; clear nv_; clear HO_6; clear HO_25; clear HO_32; clear HB; have HO_6 := n0_; have HO_25 := n1_; have HO_32 := n2_; have HO314 := n3_; have HB := n4_; clear n0_ n1_ n2_ n3_ n4_; (try clear hb); (try clear ho0); obtain ⟨Ao26, co26, eo26⟩ := Kd.R_slice HO314.out; subst eo26) | ((with_reducible refine gate_builtin (b := .append) (xs := #[.tmp 38, .tmp 42]) rfl ?_); at_builtin; refine Kd.N_append (Kd.slice 37 k37) (w0 := w) w.heap.size rfl (.tmp 38) (.tmp 42) 58 24 (.slice none 0 0) 24 rfl Tryz.underlying58 info24 rfl (by decide) (by omega) u6 x6_3 t312 [.slice Ao26 t312.length co26] (fun k_ => some k_ ≠ (.slice (some ad307) x5_1.length co12 : Value).ownBlock ∧ some k_ ≠ (.slice (some ad311) t308.length co18 : Value).ownBlock) (fun k_ => ((fun k_ => some k_ ≠ (.slice (some ad307) x5_1.length co12 : Value).ownBlock ∧ some k_ ≠ (.slice (some ad311) t308.length co18 : Value).ownBlock)) k_ ∧ some k_ ≠ (u6 : Value).ownBlock) rfl rfl ?aP (fun _ hk => hk) ?aF ?aO ?aB ?aS ?aL ?_; (case aP => exact (Kd.FK_slice_mk (Kd.R_reads' (Kd.R_mono (ok' := (fun k_ => ((fun k_ => some k_ ≠ (.slice (some ad307) x5_1.length co12 : Value).ownBlock ∧ some k_ ≠ (.slice (some ad311) t308.length co18 : Value).ownBlock)) k_ ∧ some k_ ≠ (u6 : Value).ownBlock)) (Kd.R_apart' (Kd.R_apart' (HO314.out) (Kd.N_typed HO_25.out) (by decide)) (Kd.N_typed HO_6.out) (by decide)) (fun k_ hk => ⟨⟨hk.1.2, hk.1.1.2⟩, hk.2⟩))).2.1 (Kd.R_F (Kd.R_mono (ok' := (fun k_ => ((fun k_ => some k_ ≠ (.slice (some ad307) x5_1.length co12 : Value).ownBlock ∧ some k_ ≠ (.slice (some ad311) t308.length co18 : Value).ownBlock)) k_ ∧ some k_ ≠ (u6 : Value).ownBlock)) (Kd.R_apart' (Kd.R_apart' (HO314.out) (Kd.N_typed HO_25.out) (by decide)) (Kd.N_typed HO_6.out) (by decide)) (fun k_ hk => ⟨⟨hk.1.2, hk.1.1.2⟩, hk.2⟩))))); (case aB => exact bq); (case aF => exact (fun k_ hk => ⟨Kd.fresh' (Kd.N_lt (by exact HO_25.out)) k_ hk, Kd.fresh' (Kd.R_lt (rq HO_32)) k_ hk⟩)); (case aO => exact (by exact Kd.N_mono HO_6.out (fun _ hk => ⟨hk.1.1, hk.1.2⟩))); (case aS => exact (below_size bq)); (case aL => have := LMc23.out; omega); intro v316 w25 ho hb hg hat; rw [← Ny315.out] at ho; have n0_ := ak (Kd.N_afterv (ok := (fun k_ => some k_ ≠ (.slice (some ad311) t308.length co18 : Value).ownBlock ∧ some k_ ≠ (.slice Ao26 t312.length co26 : Value).ownBlock)) (by exact Kd.N_mono HO_25.out (fun _ hk => ⟨⟨hk.1.2, hk.2⟩, hk.1.1⟩)) hg hat); have n1_ := ak (Kd.R_over' (rq HO_32) (Kd.N_typed (by exact HO_6.out)) (by decide) hg); have n2_ := ak (hb); have n3_ := ak (ho); have nv_ := ak (Kd.V_afterv (ok := (fun k_ => some k_ ≠ (.slice Ao26 t312.length co26 : Value).ownBlock)) (Kd.V_mono HV8.out (fun _ hk => ⟨hk.2, hk.1⟩)) hg hat); clear HV8; have HV8 := nv_; clear nv_; clear HO_25; clear HO_32; clear HB; clear HO_6; clear HO314; have HO_25 := n0_; have HO_32 := n1_; have HB := n2_; have HO317 := n3_; clear n0_ n1_ n2_ n3_; clear ho hb hg hat))
           go_roundg k3
           case measure => have := HK1.out; have := HK2.out; have := HK3.out; omega
           case rel => exact ⟨(y315), (wrap64 (x34_3 + 1)), sq, H', ⟨by have := HK1.out; have := HK2.out; have := HK3.out; omega⟩, ⟨by exact HO317.out⟩, ⟨by exact Kd.N_mono HO_25.out (fun _ hk => ⟨hk.2, hk.1.1⟩)⟩, ⟨by exact Kd.R_mono HO_32.out (fun _ hk => trivial)⟩, ⟨by exact Kd.V_mono HV8.out (fun _ hk => hk.2)⟩, ⟨bq⟩⟩
          ·rw [if_neg c19] at H
           have c19b0 := decide_eq_false c19; clear c19; have H' := ak H; clear H; go_wp2; go_roundg k3
           case measure => have := HK1.out; have := HK2.out; have := HK3.out; omega
           case rel => exact ⟨(x6_3), (wrap64 (x27_2 + 1)), sq, H', ⟨by have := HK1.out; have := HK2.out; have := HK3.out; omega⟩, ⟨by exact Kd.N_mono HO_6.out (fun _ hk => hk.1)⟩, ⟨by exact Kd.N_mono HO_25.out (fun _ hk => hk.1)⟩, ⟨bq⟩⟩
       ·rw [if_neg c13] at H
        have c13b0 := decide_eq_false c13; clear c13; obtain ⟨t303, A270, H⟩ := Option.bind_eq_some_iff.mp H
        have A27 := ak A270; clear A270; obtain ⟨t304, A280, H⟩ := Option.bind_eq_some_iff.mp H
        have A28 := ak A280; clear A280; have H' := ak H; clear H; obtain ⟨Ao29, co29, eo29⟩ := Kd.N_slice HO_6.out; subst eo29
        go_wp2_with (first | ((with_reducible refine gate_callee (f := 42) rfl ?_); refine goesL_ (some 47) rfl rfl Tryz.func42 (by kernel_rfl) rfl #[.slice Ao29 x6_2.length co29, .func (.func 43) #[] #[]] rfl aq ?_; (with_reducible refine (slices_SortFunc_CountBodies_1.calls (fun k_ => some k_ ≠ (.slice Ao12 x5_1.length co12 : Value).ownBlock) (.slice Ao29 x6_2.length co29) x6_2 t303 w _ ?side1 ?side2 A27.out).mono ?_); (case side1 => exact bq); (case side2 => exact (by exact HO_6.out)); rintro e w30 ⟨rfl, hy0, hb⟩; refine ⟨_, rfl, ?_⟩; have n0_ := ak hy0; have n1_ := ak hb; clear HO_6 HO_25 HB; have HO_6 := n0_; have HB := n1_; clear n0_ n1_ hy0 hb) | ((with_reducible refine gate_callee (f := 45) rfl ?_); refine goesL_ (some 49) rfl rfl Tryz.func45 (by kernel_rfl) rfl #[.slice Ao29 x6_2.length co29, .func (.func 46) #[] #[]] rfl aq ?_; (with_reducible refine (slices_CompactFunc_CountBodies_2.calls k2 (fun k_ => some k_ ≠ (.slice Ao12 x5_1.length co12 : Value).ownBlock) (.slice Ao29 x6_2.length co29) t303 t304 w _ ?side1 ?side2 A28.out).mono ?_); (case side1 => exact bq); (case side2 => exact (by exact HO_6.out)); rintro e w31 ⟨v305, rfl, ho0, hb⟩; refine ⟨_, rfl, ?_⟩; have n0_ := ak ho0; have n1_ := ak hb; clear HO_6 HB; have HO306 := n0_; have HB := n1_; clear n0_ n1_ ho0 hb))
        go_roundg k2
        case measure => have := HK1.out; have := HK2.out; omega
        case rel => exact ⟨(t304), (wrap64 (x22_1 + 1)), sq, H', ⟨by have := HK1.out; have := HK2.out; omega⟩, ⟨by exact Kd.N_mono HO306.out (fun _ hk => trivial)⟩, ⟨bq⟩⟩
    ·rw [if_neg c9] at H
     have c9b0 := decide_eq_false c9; clear c9; have H' := ak H; clear H; obtain ⟨Ao32, co32, eo32⟩ := Kd.N_slice HO_5.out; subst eo32; go_wp2
     go_loopg [11, 53] k1 (fun kq v11 v53 w' => ∃ (x11_2 : Int) (x53_2 : Int), v11 = .int .i64 x11_2 ∧ v53 = .int .i64 x53_2 ∧ Aside0 (impl_CountBodies.l3 kq x5_1 x11_2 x5_1 (x5_1.length : Int) x53_2 = some (r1, r2, r3)) ∧ Aside0 (kq ≤ k1) ∧ Aside0 (Kd.N (Kd.slice 37 k37) 24 w' w.heap.size (fun _ => True) (.slice Ao32 x5_1.length co32) x5_1) ∧ Aside0 (Kd.N (Kd.slice 37 k37) 24 w' w.heap.size (fun _ => True) (.slice Ao32 x5_1.length co32) x5_1) ∧ Aside0 (Below w.heap.size w w'))
     case atStart => exact ⟨(0), (0), sq, sq, H', ⟨Nat.le_refl _⟩, ⟨by exact HO_5.out⟩, ⟨by exact HO_5.out⟩, ⟨bq⟩⟩
     case round =>
      clear H'; (try clear c9b0); obtain ⟨x11_2, x53_2, rfl, rfl, HA, HK2, HO_5, HO_51, HB⟩ := hrel
      cases gk with
      | zero => exact absurd HA.out (by simp [impl_CountBodies.l3])
      | succ k2 =>
       have H := HA.out; clear HA; simp only [impl_CountBodies.l3] at H
       by_cases c33 : x53_2 < (x5_1.length : Int)
       ·rw [if_pos c33] at H
        have c33b0 := decide_eq_true c33; clear c33
        revert H; refine ig_ fun c34 H => ?_
        have c34b0 := decide_eq_true c34; clear c34
        revert H; refine ig_ fun c35 H => ?_
        have c35b0 := decide_eq_true c35; clear c35; obtain ⟨t319, A360, H⟩ := Option.bind_eq_some_iff.mp H
        have A36 := ak A360; clear A360
        by_cases c37 : t319 = 0
        ·rw [if_pos c37] at H
         have c37b0 : (t319 == 0) = true := beq_iff_eq.mpr c37; have c37b1 : (t319 != 0) = false := bne_eq_false_iff_eq.mpr c37; clear c37; have H' := ak H; clear H; have p318 : 0 ≤ (x53_2 : Int) := dq; have q318 : x53_2 < (x5_1.length : Int) := dq; obtain ⟨ad318, A318_0, c318_0, e318, hx318_0, hl318_0, hi318_0⟩ := atB (Kd.N_reads' HO_51.out).2.2 x53_2 p318 q318; cases e318; obtain ⟨ce318, hce318, hMe318, hcc318⟩ := Kd.N_get HO_51.out [] x53_2 p318 (by exact q318); obtain ⟨ua318_0, uc318_0, rfl, ul318_0, ge318_0⟩ := Kd.FK_slice_open hMe318; have hv318_0 := hcc318 0 _ rfl; rw [Nat.add_zero, show ((Kd.slice 37 k37)).sz = 1 from rfl, Nat.mul_one] at hv318_0; replace hv318_0 := Option.some.inj (hv318_0.symm.trans hx318_0)
         injection hv318_0 with hva_ hvn_ hvc_
         rw [hva_] at ge318_0; rw [hvc_] at ul318_0; have HL318_0 := ak (show Kd.V k37 37 _ w.heap.size _ _ (rdBd x5_1 x53_2) from Kd.V_mk ul318_0 ge318_0); clear hva_ hvn_ hvc_ ge318_0 ul318_0; clear hcc318 hce318; have HR318_0 := ak hi318_0; have HC318_0 := ak hl318_0; clear hi318_0 hl318_0; replace p318 := eq_true p318; replace q318 := eq_true q318
         go_wp2_with (((with_reducible refine gate_callee (f := 32) rfl ?_); refine goesL_ (some 58) rfl rfl Tryz.func32 (by kernel_rfl) rfl #[.slice A318_0 (rdBd x5_1 x53_2).length c318_0] rfl aq ?_; (with_reducible refine (impl_bodySide.calls k2 _ _ (rdBd x5_1 x53_2) t319 _ ?side1 ?side2 A36.out).mono ?_); (case side1 => exact cq (by repeat ((with_reducible exact HR318_0.out)))); (case side2 => exact HC318_0.out); rintro e w38 ⟨rfl, hb⟩; refine ⟨_, rfl, ?_⟩; have n0_ := ak (Kd.N_below (by exact HO_5.out) hb); have n1_ := ak (Kd.N_below (by exact HO_51.out) hb); have n2_ := ak (Kd.V_below (by exact HL318_0.out) hb); have n3_ := ak (Kd.C_below (by repeat ((with_reducible exact HR318_0.out))) hb); have n4_ := ak (below_step bq hb); clear HO_5; clear HO_51; clear HL318_0; clear HR318_0; clear HB; have HO_5 := n0_; have HO_51 := n1_; have HL318_0 := n2_; have HR318_0 := n3_; have HB := n4_; clear n0_ n1_ n2_ n3_ n4_; (try clear hb)))
         go_roundg k2
         case measure => have := HK1.out; have := HK2.out; omega
         case rel => exact ⟨(wrap64 (x11_2 + 1)), (wrap64 (x53_2 + 1)), sq, sq, H', ⟨by have := HK1.out; have := HK2.out; omega⟩, ⟨by exact HO_5.out⟩, ⟨by exact HO_51.out⟩, ⟨bq⟩⟩
        ·rw [if_neg c37] at H
         have c37b0 : (t319 == 0) = false := beq_eq_false_iff_ne.mpr c37; have c37b1 : (t319 != 0) = true := bne_iff_ne.mpr c37; have H' := ak H; clear H; have p318 : 0 ≤ (x53_2 : Int) := dq; have q318 : x53_2 < (x5_1.length : Int) := dq; obtain ⟨ad318, A318_0, c318_0, e318, hx318_0, hl318_0, hi318_0⟩ := atB (Kd.N_reads' HO_51.out).2.2 x53_2 p318 q318; cases e318; obtain ⟨ce318, hce318, hMe318, hcc318⟩ := Kd.N_get HO_51.out [] x53_2 p318 (by exact q318); obtain ⟨ua318_0, uc318_0, rfl, ul318_0, ge318_0⟩ := Kd.FK_slice_open hMe318; have hv318_0 := hcc318 0 _ rfl; rw [Nat.add_zero, show ((Kd.slice 37 k37)).sz = 1 from rfl, Nat.mul_one] at hv318_0; replace hv318_0 := Option.some.inj (hv318_0.symm.trans hx318_0)
         injection hv318_0 with hva_ hvn_ hvc_
         rw [hva_] at ge318_0; rw [hvc_] at ul318_0; have HL318_0 := ak (show Kd.V k37 37 _ w.heap.size _ _ (rdBd x5_1 x53_2) from Kd.V_mk ul318_0 ge318_0); clear hva_ hvn_ hvc_ ge318_0 ul318_0; clear hcc318 hce318; have HR318_0 := ak hi318_0; have HC318_0 := ak hl318_0; clear hi318_0 hl318_0; replace p318 := eq_true p318; replace q318 := eq_true q318
         go_wp2_with (((with_reducible refine gate_callee (f := 32) rfl ?_); refine goesL_ (some 58) rfl rfl Tryz.func32 (by kernel_rfl) rfl #[.slice A318_0 (rdBd x5_1 x53_2).length c318_0] rfl aq ?_; (with_reducible refine (impl_bodySide.calls k2 _ _ (rdBd x5_1 x53_2) t319 _ ?side1 ?side2 A36.out).mono ?_); (case side1 => exact cq (by repeat ((with_reducible exact HR318_0.out)))); (case side2 => exact HC318_0.out); rintro e w39 ⟨rfl, hb⟩; refine ⟨_, rfl, ?_⟩; have n0_ := ak (Kd.N_below (by exact HO_5.out) hb); have n1_ := ak (Kd.N_below (by exact HO_51.out) hb); have n2_ := ak (Kd.V_below (by exact HL318_0.out) hb); have n3_ := ak (Kd.C_below (by repeat ((with_reducible exact HR318_0.out))) hb); have n4_ := ak (below_step bq hb); clear HO_5; clear HO_51; clear HL318_0; clear HR318_0; clear HB; have HO_5 := n0_; have HO_51 := n1_; have HL318_0 := n2_; have HR318_0 := n3_; have HB := n4_; clear n0_ n1_ n2_ n3_ n4_; (try clear hb)))
         go_roundg k2
         case measure => have := HK1.out; have := HK2.out; omega
         case rel => exact ⟨(x11_2), (wrap64 (x53_2 + 1)), sq, sq, H', ⟨by have := HK1.out; have := HK2.out; omega⟩, ⟨by exact HO_5.out⟩, ⟨by exact HO_51.out⟩, ⟨bq⟩⟩
       ·rw [if_neg c33] at H
        have c33b0 := decide_eq_false c33; clear c33; simp only [Option.some.injEq, Prod.mk.injEq] at H; obtain ⟨rfl, rfl, rfl⟩ := H; go_wp2
        go_ret3
        exact ⟨eq_, bq⟩
 ·replace c3 := Bool.eq_false_iff.mpr c3
  subst c3; rw [if_neg (show ¬ (false = true) by decide)] at H; simp only [Option.some.injEq, Prod.mk.injEq] at H; obtain ⟨rfl, rfl, rfl⟩ := H
  go_enter Tryz.func17, Tryz.ntmps17
  go_wp2_with (((with_reducible refine gate_callee (f := 26) rfl ?_); refine goesL_ (some 15) rfl rfl Tryz.func26 (by kernel_rfl) rfl #[.int .i64 a0, .int .i64 1, .int .i64 6] rfl aq ?_; (with_reducible refine (impl_within.calls a0 1 6 false _ A2.out).mono ?_); rintro e w' ⟨rfl, ⟨nd, rfl⟩⟩; refine ⟨_, rfl, ?_⟩))
  go_ret3
  exact ⟨eq_, bq⟩
section
attribute [local go_sem high] eqA37
/-! ### spec_l8Found: function 74 -/
mutual
def spec_l8Found.l0 : Nat → List (List (S37)) → List (S37) → Int → Option (Bool)
 | 0, _, _, _ => none
 | k + 1, x0, x1, x5 => if x5 < (x0.length : Int) then (spec_l8Found.l1 k x0 x1 x5 true 0) else (some false)
def spec_l8Found.l1 : Nat → List (List (S37)) → List (S37) → Int → Bool → Int → Option (Bool)
 | 0, _, _, _, _, _ => none
 | k + 1, x0, x1, x5, x6, x7 => if x7 < (x1.length : Int) then (if x6 = true then (if 0 ≤ x5 then (if x5 < (x0.length : Int) then (if 0 ≤ x7 then (if x7 < ((rd_L4 x0 x5).length : Int) then (spec_l8Found.l1 k x0 x1 x5 (((rd_T37 (rd_L4 x0 x5) x7).f0) == ((rd_T37 x1 x7).f0) && (((rd_T37 (rd_L4 x0 x5) x7).f1) == ((rd_T37 x1 x7).f1))) (wrap64 (x7 + 1))) else (none)) else (none)) else (none)) else (none)) else (spec_l8Found.l0 k x0 x1 (wrap64 (x5 + 1)))) else (if x6 = true then (some true) else (spec_l8Found.l0 k x0 x1 (wrap64 (x5 + 1))))
end
def spec_l8Found.f (k : Nat) (l0 : List (List (S37))) (l1 : List (S37)) : Option (Bool) := spec_l8Found.l0 k l0 l1 0
theorem spec_l8Found.calls (k : Nat) (A0 : Option Addr) (c0 : Nat) (l0 : List (List (S37))) (A1 : Option Addr) (c1 : Nat) (l1 : List (S37)) (r : Bool) (w : World) (hr0 : Kd.C (Kd.slice 37 k37) w A0 l0.length l0) (hc0 : l0.length ≤ c0) (hr1 : Kd.C k37 w A1 l1.length l1) (hc1 : l1.length ≤ c1) (h : spec_l8Found.f k l0 l1 = some r) :
  Calls Tryz.prog 74 #[.slice A0 l0.length c0, .slice A1 l1.length c1] w fun e w' => e = .returned (.bool r) ∧ Drawn0 w w' := by
 have hu37 := Tryz.underlying37; have HR0 := ak hr0; have HC0 := ak hc0; clear hr0 hc0; have HR1 := ak hr1; have HC1 := ak hc1; clear hr1 hc1; have H : (spec_l8Found.l0 k l0 l1 0) = some r := h; clear h; have H' := ak H; clear H
 go_enter Tryz.func74, Tryz.ntmps74
 go_wp2
 repeat (go_quiet (fail); try go_wp2)
 go_loopg [5] k (fun kq v5 w' => ∃ (x5_1 : Int), v5 = .int .i64 x5_1 ∧ Aside0 (spec_l8Found.l0 kq l0 l1 x5_1 = some r) ∧ Aside0 (kq ≤ k) ∧ Drawn0 w w')
 case atStart => exact ⟨(0), sq, H', ⟨Nat.le_refl _⟩, by repeat (exact Drawn0.refl _)⟩
 case round =>
  clear H'; obtain ⟨x5_1, rfl, HA, HK1, ⟨m1, rfl⟩⟩ := hrel
  cases gk with
  | zero => exact absurd HA.out (by simp [spec_l8Found.l0])
  | succ k1 =>
   have H := HA.out; clear HA; simp only [spec_l8Found.l0] at H
   by_cases c3 : x5_1 < (l0.length : Int)
   ·rw [if_pos c3] at H
    have c3b0 := decide_eq_true c3; clear c3; have H' := ak H; clear H; go_wp2
    repeat (go_quiet (fail); try go_wp2)
    go_loopg [6, 7] k1 (fun kq v6 v7 w' => ∃ (x6_2 : Bool) (x7_2 : Int), v6 = .bool x6_2 ∧ v7 = .int .i64 x7_2 ∧ Aside0 (spec_l8Found.l1 kq l0 l1 x5_1 x6_2 x7_2 = some r) ∧ Aside0 (kq ≤ k1) ∧ Drawn0 w w')
    case atStart => exact ⟨(true), (0), sq, sq, H', ⟨Nat.le_refl _⟩, by repeat (first | exact Drawn0.refl _ | apply Drawn0.step)⟩
    case round =>
     clear H'; (try clear c3b0); obtain ⟨x6_2, x7_2, rfl, rfl, HA, HK2, ⟨m2, rfl⟩⟩ := hrel
     cases gk with
     | zero => exact absurd HA.out (by simp [spec_l8Found.l1])
     | succ k2 =>
      have H := HA.out; clear HA; simp only [spec_l8Found.l1] at H
      by_cases c4 : x7_2 < (l1.length : Int)
      ·rw [if_pos c4] at H
       have c4b0 := decide_eq_true c4; clear c4
       by_cases c5 : x6_2 = true
       ·subst c5
        rw [if_pos rfl] at H
        revert H; refine ig_ fun c6 H => ?_
        have c6b0 := decide_eq_true c6; clear c6
        revert H; refine ig_ fun c7 H => ?_
        have c7b0 := decide_eq_true c7; clear c7
        revert H; refine ig_ fun c8 H => ?_
        have c8b0 := decide_eq_true c8; clear c8
        revert H; refine ig_ fun c9 H => ?_
        have c9b0 := decide_eq_true c9; clear c9; have H' := ak H; clear H; have p495 : 0 ≤ (x5_1 : Int) := dq; have q495 : x5_1 < (l0.length : Int) := dq; obtain ⟨ad495, A495_0, c495_0, e495, hx495_0, hl495_0, hi495_0⟩ := at_L4 HR0.out x5_1 p495 q495; cases e495; have HR495_0 := ak hi495_0; have HC495_0 := ak hl495_0; clear hi495_0 hl495_0; replace p495 := eq_true p495; replace q495 := eq_true q495; have p496 : 0 ≤ (x7_2 : Int) := dq; have q496 : x7_2 < ((rd_L4 l0 x5_1).length : Int) := dq; obtain ⟨ad496, e496, hx496_0, hx496_1⟩ := at_T37 HR495_0.out x7_2 p496 q496; cases e496; replace p496 := eq_true p496; replace q496 := eq_true q496; have p497 : 0 ≤ (x7_2 : Int) := dq; have q497 : x7_2 < (l1.length : Int) := dq; obtain ⟨ad497, e497, hx497_0, hx497_1⟩ := at_T37 HR1.out x7_2 p497 q497; cases e497; replace p497 := eq_true p497; replace q497 := eq_true q497; go_wp2
        repeat (go_quiet (fail); try go_wp2)
        go_roundg k2
        case measure => have := HK1.out; have := HK2.out; omega
        case rel => exact ⟨((((rd_T37 (rd_L4 l0 x5_1) x7_2).f0) == ((rd_T37 l1 x7_2).f0) && (((rd_T37 (rd_L4 l0 x5_1) x7_2).f1) == ((rd_T37 l1 x7_2).f1)))), (wrap64 (x7_2 + 1)), sq, sq, H', ⟨by have := HK1.out; have := HK2.out; omega⟩, by repeat (first | exact Drawn0.refl _ | apply Drawn0.step)⟩
       ·replace c5 := Bool.eq_false_iff.mpr c5
        subst c5; rw [if_neg (show ¬ (false = true) by decide)] at H; have H' := ak H; clear H; go_wp2
        repeat (go_quiet (fail); try go_wp2)
        go_roundg k2
        case measure => have := HK1.out; have := HK2.out; omega
        case rel => exact ⟨(wrap64 (x5_1 + 1)), sq, H', ⟨by have := HK1.out; have := HK2.out; omega⟩, by repeat (first | exact Drawn0.refl _ | apply Drawn0.step)⟩
      ·rw [if_neg c4] at H
       have c4b0 := decide_eq_false c4; clear c4
       by_cases c10 : x6_2 = true
       ·subst c10
        rw [if_pos rfl] at H; obtain rfl := Option.some.inj H; go_wp2
        repeat (go_quiet (fail); try go_wp2)
        go_ret; exact ⟨sq, by repeat (first | exact Drawn0.refl _ | apply Drawn0.step)⟩
       ·replace c10 := Bool.eq_false_iff.mpr c10
        subst c10; rw [if_neg (show ¬ (false = true) by decide)] at H; have H' := ak H; clear H; go_wp2
        repeat (go_quiet (fail); try go_wp2)
        go_roundg k2
        case measure => have := HK1.out; have := HK2.out; omega
        case rel => exact ⟨(wrap64 (x5_1 + 1)), sq, H', ⟨by have := HK1.out; have := HK2.out; omega⟩, by repeat (first | exact Drawn0.refl _ | apply Drawn0.step)⟩
   ·rw [if_neg c3] at H
    have c3b0 := decide_eq_false c3; clear c3; obtain rfl := Option.some.inj H; go_wp2
    repeat (go_quiet (fail); try go_wp2)
    go_ret; exact ⟨sq, by repeat (first | exact Drawn0.refl _ | apply Drawn0.step)⟩
end
/-! ### spec_l8All: function 49 -/
mutual
def spec_l8All.l0 : Nat → Int → List (List (S37)) → Int → Option ((List (List (S37))))
 | 0, _, _, _ => none
 | k + 1, x0, x3, x4 => if x4 < x0 then (spec_l8All.l1 k x0 x3 x4 (([] : List (List (S37)))) 0) else (some x3)
def spec_l8All.l1 : Nat → Int → List (List (S37)) → Int → List (List (S37)) → Int → Option ((List (List (S37))))
 | 0, _, _, _, _, _ => none
 | k + 1, x0, x3, x4, x5, x6 => if x6 < (x3.length : Int) then (if 0 ≤ x6 then ((spec_l8Edge.f k (rd_L4 x3 x6)).bind fun t508 => (spec_l8All.l2 k x0 x3 x4 x5 x6 t508 0)) else (none)) else (spec_l8All.l0 k x0 x5 (wrap64 (x4 + 1)))
def spec_l8All.l2 : Nat → Int → List (List (S37)) → Int → List (List (S37)) → Int → List (S37) → Int → Option ((List (List (S37))))
 | 0, _, _, _, _, _, _, _ => none
 | k + 1, x0, x3, x4, x5, x6, x7, x8 => if x8 < (x7.length : Int) then (if 0 ≤ x6 then (if x6 < (x3.length : Int) then (if 0 ≤ x8 then ((spec_l8Put.f k (rd_L4 x3 x6) ((rd_T37 x7 x8).f0) ((rd_T37 x7 x8).f1)).bind fun t513 => ((spec_l8Down.f k t513).bind fun t516 => ((spec_l8Found.f k x5 t516).bind fun t519 => (if t519 = true then (spec_l8All.l2 k x0 x3 x4 x5 x6 x7 (wrap64 (x8 + 1))) else (if x5.length < 5864062014805 then (spec_l8All.l2 k x0 x3 x4 (x5 ++ [t516]) x6 x7 (wrap64 (x8 + 1))) else (none)))))) else (none)) else (none)) else (none)) else (spec_l8All.l1 k x0 x3 x4 x5 (wrap64 (x6 + 1)))
end
def spec_l8All.f (k : Nat) (a0 : Int) : Option ((List (List (S37)))) := spec_l8All.l0 k a0 (([(([(⟨0, 0⟩ : S37)] : List (S37)))] : List (List (S37)))) 1
def spec_l8All.T13 : Bool × List (List Nat × List Nat) := (true, [([], []), ([], []), ([0, 1], [0, 1]), ([2], [2]), ([], []), ([], []), ([4, 5], [4, 5]), ([6], [6]), ([3, 7], [3, 7]), ([8, 8], [8]), ([9, 9, 0, 1, 2, 3, 4, 5, 6, 7, 8, 9], [9])])
def spec_l8All.B13 : List Nat := [0, 0, 3, 7, 0, 0, 48, 112, 255, 511, 1023]
theorem spec_l8All.tab13 : rtab .any (opsOf Tryz.f49 13) = spec_l8All.T13 := by kernel_rfl
theorem spec_l8All.bits13 : waitsOk spec_l8All.T13.2 spec_l8All.B13 = true := by kernel_rfl
theorem spec_l8All.calls (k : Nat) (a0 : Int) (r : List (List (S37))) (w : World) (h : spec_l8All.f k a0 = some r) :
  Calls Tryz.prog 49 #[.int .i64 a0] w fun e w' => ∃ v0_ : Value, e = .returned (v0_) ∧ Kd.N (Kd.slice 37 k37) 24 w' w.heap.size (fun k_ => (w.heap.size ≤ k_)) v0_ r ∧ Below w.heap.size w w' := by
 have hu37 := Tryz.underlying37; have HB := ak (Below.refl w.heap.size w); have H : (spec_l8All.l0 k a0 (([(([(⟨0, 0⟩ : S37)] : List (S37)))] : List (List (S37)))) 1) = some r := h; clear h; obtain ⟨y498, hy498⟩ : ∃ y_ : List (S37), y_ = (([(⟨0, 0⟩ : S37)] : List (S37))) := ⟨_, rfl⟩
 replace H : (spec_l8All.l0 k a0 (([y498] : List (List (S37)))) 1) = some r := by first | (rw [hy498]; with_reducible exact H) | (have H2_ := (Option.bind_some _ _).symm.trans H; rw [hy498]; with_reducible exact H2_) | (have H2_ := (Option.bind_some _ _).symm.trans H; with_reducible exact H2_) | with_reducible exact H | (rw [hy498]; exact H) | exact H
 have Ny498 := ak hy498; clear hy498; obtain ⟨y501, hy501⟩ : ∃ y_ : List (List (S37)), y_ = (([y498] : List (List (S37)))) := ⟨_, rfl⟩
 replace H : (spec_l8All.l0 k a0 y501 1) = some r := by first | (rw [hy501]; with_reducible exact H) | (have H2_ := (Option.bind_some _ _).symm.trans H; rw [hy501]; with_reducible exact H2_) | (have H2_ := (Option.bind_some _ _).symm.trans H; with_reducible exact H2_) | with_reducible exact H | (rw [hy501]; exact H) | exact H
 have Ny501 := ak hy501; clear hy501; have H' := ak H; clear H
 go_enter Tryz.func49, Tryz.ntmps49
 go_wp2_with (first | ((with_reducible refine gate_dst (N := 11) rfl ?_); refine Kd.R_lit k37 _ 37 ?hg (N := 11) ?hd (xs := ([(⟨0, 0⟩ : S37)] : List (S37))) (inner := [.int .i64 0, .int .i64 0]) (ok := fun _ => True) (okp := fun _ => True) ?hr ?hp (fun _ hk => hk) trivial (Below.refl _ _) (Nat.le_refl _) (by simp) ?_; (case hd => rfl); (case hg => rfl); (case hr => (go_simp; done)); (case hp => exact (Reps.c2 (show Kd.M k37 _ _ _ (⟨0, 0⟩ : S37) [.int .i64 0, .int .i64 0] from (k37_mkM _ _ _ (⟨0, 0⟩ : S37) )) (Reps.none _ _))); intro v499 w2 ho3 hb hg_ hnew_; clear hg_ hnew_; (rw [← Ny498.out] at ho3); have n0_ := ak (Kd.R_lower (Kd.R_newM (M := fun k_ => (w.heap.size ≤ k_)) ho3 (below_size bq) (fun k_ h_ => h_)) (below_size bq)); have n1_ := ak (below_step bq hb); clear HB; have HO500 := n0_; have HB := n1_; clear n0_ n1_; clear hb ho3; obtain ⟨Ao4, co4, eo4⟩ := Kd.R_slice HO500.out; subst eo4) | ((with_reducible refine gate_dst (N := 12) rfl ?_); refine Kd.N_lit (Kd.slice 37 k37) _ 24 ?hg (N' := 12) ?hd (xs := ([y498] : List (List (S37)))) (inner := [.slice Ao4 y498.length co4]) (ok := (fun k_ => (w.heap.size ≤ k_))) (okp := (fun k_ => (w.heap.size ≤ k_))) ?hr ?hp (fun _ hk => hk) ((show ∀ k_, w2.heap.size ≤ k_ → (fun k_ => (w.heap.size ≤ k_)) k_ from fun k_ hk => (Nat.le_trans (below_size bq) hk)) _ (Nat.le_refl _)) (Below.refl _ _) (Nat.le_refl _) (by simp) ?_; (case hd => rfl); (case hg => rfl); (case hr => (go_simp; done)); (case hp => exact (Reps.one (show Kd.FK (Kd.slice 37 k37) _ _ y498 [.slice Ao4 y498.length co4] from (Kd.FK_slice_mk (Kd.R_reads' (Kd.R_mono (ok' := (fun k_ => (w.heap.size ≤ k_))) (HO500.out) (fun k_ hk => hk.1))).2.1 (Kd.R_F (Kd.R_mono (ok' := (fun k_ => (w.heap.size ≤ k_))) (HO500.out) (fun k_ hk => hk.1))))) (Reps.none _ _))); intro v502 w5 ho6 hb hg_ hnew_; clear hg_ hnew_; (rw [← Ny501.out] at ho6); have n0_ := ak (Kd.N_lower ho6 (below_size bq)); have n1_ := ak (below_step bq hb); clear HB; clear HO500; have HO503 := n0_; have HB := n1_; clear n0_ n1_; clear hb ho6))
 go_loopg [3, 4] k (fun kq v3 v4 w' => ∃ (x3_1 : List (List (S37))) (x4_1 : Int), v4 = .int .i64 x4_1 ∧ Aside0 (spec_l8All.l0 kq a0 x3_1 x4_1 = some r) ∧ Aside0 (kq ≤ k) ∧ Aside0 (Kd.N (Kd.slice 37 k37) 24 w' w.heap.size (fun k_ => (w.heap.size ≤ k_)) v3 x3_1) ∧ Aside0 (Below w.heap.size w w'))
 case atStart => exact ⟨(y501), (1), sq, H', ⟨Nat.le_refl _⟩, ⟨by exact HO503.out⟩, ⟨bq⟩⟩
 case round =>
  clear H'; obtain ⟨x3_1, x4_1, rfl, HA, HK1, HO_3, HB⟩ := hrel
  cases gk with
  | zero => exact absurd HA.out (by simp [spec_l8All.l0])
  | succ k1 =>
   have H := HA.out; clear HA; simp only [spec_l8All.l0] at H
   by_cases c7 : x4_1 < a0
   ·rw [if_pos c7] at H
    have c7b0 := decide_eq_true c7; clear c7; obtain ⟨y504, hy504⟩ : ∃ y_ : List (List (S37)), y_ = (([] : List (List (S37)))) := ⟨_, rfl⟩
    replace H : (spec_l8All.l1 k1 a0 x3_1 x4_1 y504 0) = some r := by first | (rw [hy504]; with_reducible exact H) | (have H2_ := (Option.bind_some _ _).symm.trans H; rw [hy504]; with_reducible exact H2_) | (have H2_ := (Option.bind_some _ _).symm.trans H; with_reducible exact H2_) | with_reducible exact H | (rw [hy504]; exact H) | exact H
    have Ny504 := ak hy504; clear hy504; have H' := ak H; clear H
    go_wp2_with (((with_reducible refine gate_dst (N := 18) rfl ?_); refine Kd.N_lit (Kd.slice 37 k37) _ 24 ?hg (N' := 18) ?hd (xs := ([] : List (List (S37)))) (inner := []) (ok := (fun k_ => (w.heap.size ≤ k_) ∧ some k_ ≠ (u3 : Value).ownBlock)) (okp := (fun k_ => (w.heap.size ≤ k_) ∧ some k_ ≠ (u3 : Value).ownBlock)) ?hr ?hp (fun _ hk => hk) ((show ∀ k_, wr.heap.size ≤ k_ → (fun k_ => (w.heap.size ≤ k_) ∧ some k_ ≠ (u3 : Value).ownBlock) k_ from fun k_ hk => ⟨(Nat.le_trans (below_size bq) hk), Kd.fresh' (Kd.N_lt (by exact HO_3.out)) k_ hk⟩) _ (Nat.le_refl _)) (Below.refl _ _) (Nat.le_refl _) (by simp) ?_; (case hd => rfl); (case hg => rfl); (case hr => (go_simp; done)); (case hp => exact (Reps.none _ _)); intro v505 w8 ho9 hb hg_ hnew_; clear hg_ hnew_; (rw [← Ny504.out] at ho9); have n0_ := ak (Kd.N_elder' (by exact HO_3.out) (Kd.N_base ho9) hb); have n1_ := ak (Kd.N_lower ho9 (below_size bq)); have n2_ := ak (below_step bq hb); clear HO_3; clear HB; have HO_3 := n0_; have HO506 := n1_; have HB := n2_; clear n0_ n1_ n2_; clear hb ho9))
    go_loopg [5, 6] k1 (fun kq v5 v6 w' => ∃ (x5_2 : List (List (S37))) (x6_2 : Int), v6 = .int .i64 x6_2 ∧ Aside0 (spec_l8All.l1 kq a0 x3_1 x4_1 x5_2 x6_2 = some r) ∧ Aside0 (kq ≤ k1) ∧ Aside0 (Kd.N (Kd.slice 37 k37) 24 w' w.heap.size (fun k_ => (w.heap.size ≤ k_) ∧ some k_ ≠ (v5 : Value).ownBlock) u3 x3_1) ∧ Aside0 (Kd.N (Kd.slice 37 k37) 24 w' w.heap.size (fun k_ => (w.heap.size ≤ k_) ∧ some k_ ≠ (u3 : Value).ownBlock) v5 x5_2) ∧ Aside0 (Below w.heap.size w w'))
    case atStart => exact ⟨(y504), (0), sq, H', ⟨Nat.le_refl _⟩, ⟨by exact HO_3.out⟩, ⟨by exact HO506.out⟩, ⟨bq⟩⟩
    case round =>
     clear H'; (try clear c7b0); obtain ⟨x5_2, x6_2, rfl, HA, HK2, HO_3, HO_5, HB⟩ := hrel
     cases gk with
     | zero => exact absurd HA.out (by simp [spec_l8All.l1])
     | succ k2 =>
      have H := HA.out; clear HA; simp only [spec_l8All.l1] at H
      by_cases c10 : x6_2 < (x3_1.length : Int)
      ·rw [if_pos c10] at H
       have c10b0 := decide_eq_true c10; clear c10
       revert H; refine ig_ fun c11 H => ?_
       have c11b0 := decide_eq_true c11; clear c11; obtain ⟨t508, A120, H⟩ := Option.bind_eq_some_iff.mp H
       have A12 := ak A120; clear A120; have H' := ak H; clear H; obtain ⟨Ao13, co13, eo13⟩ := Kd.N_slice HO_3.out; subst eo13; have p507 : 0 ≤ (x6_2 : Int) := dq; have q507 : x6_2 < (x3_1.length : Int) := dq; obtain ⟨ad507, A507_0, c507_0, e507, hx507_0, hl507_0, hi507_0⟩ := at_L4 (Kd.N_reads' HO_3.out).2.2 x6_2 p507 q507; cases e507; obtain ⟨ce507, hce507, hMe507, hcc507⟩ := Kd.N_get HO_3.out [] x6_2 p507 (by exact q507); obtain ⟨ua507_0, uc507_0, rfl, ul507_0, ge507_0⟩ := Kd.FK_slice_open hMe507; have hv507_0 := hcc507 0 _ rfl; rw [Nat.add_zero, show ((Kd.slice 37 k37)).sz = 1 from rfl, Nat.mul_one] at hv507_0; replace hv507_0 := Option.some.inj (hv507_0.symm.trans hx507_0)
       injection hv507_0 with hva_ hvn_ hvc_
       rw [hva_] at ge507_0; rw [hvc_] at ul507_0; have HL507_0 := ak (show Kd.V k37 37 _ w.heap.size _ _ (rd_L4 x3_1 x6_2) from Kd.V_mk ul507_0 ge507_0); clear hva_ hvn_ hvc_ ge507_0 ul507_0; clear hcc507 hce507; have HR507_0 := ak hi507_0; have HC507_0 := ak hl507_0; clear hi507_0 hl507_0; replace p507 := eq_true p507; replace q507 := eq_true q507
       go_wp2_with (((with_reducible refine gate_callee (f := 37) rfl ?_); refine goesL_ (some 29) rfl rfl Tryz.func37 (by kernel_rfl) rfl #[.slice A507_0 (rd_L4 x3_1 x6_2).length c507_0] rfl aq ?_; (with_reducible refine (spec_l8Edge.calls k2 _ _ (rd_L4 x3_1 x6_2) t508 _ ?side1 ?side2 A12.out).mono ?_); (case side1 => exact cq (by repeat ((with_reducible exact HR507_0.out)))); (case side2 => exact HC507_0.out); rintro e w14 ⟨v509, rfl, ho0, hb⟩; refine ⟨_, rfl, ?_⟩; have n0_ := ak (Kd.N_elder' (by exact HO_3.out) (Kd.R_base ho0) hb); have n1_ := ak (Kd.N_elder' (by exact HO_5.out) (Kd.R_base ho0) hb); have n2_ := ak (Kd.V_elder' (by exact HL507_0.out) (Kd.R_base ho0) hb); have n3_ := ak (Kd.R_lower (Kd.R_newM (M := fun k_ => (w.heap.size ≤ k_)) ho0 (below_size bq) (fun k_ h_ => h_)) (below_size bq)); have n4_ := ak (Kd.C_below (by repeat ((with_reducible exact HR507_0.out))) hb); have n5_ := ak (below_step bq hb); clear HO_3; clear HO_5; clear HL507_0; clear HR507_0; clear HB; have HO_3 := n0_; have HO_5 := n1_; have HL507_0 := n2_; have HO510 := n3_; have HR507_0 := n4_; have HB := n5_; clear n0_ n1_ n2_ n3_ n4_ n5_; (try clear hb); (try clear ho0)))
       go_loopg [5, 8] k2 (fun kq v5 v8 w' => ∃ (x5_3 : List (List (S37))) (x8_3 : Int), v8 = .int .i64 x8_3 ∧ Aside0 (spec_l8All.l2 kq a0 x3_1 x4_1 x5_3 x6_2 t508 x8_3 = some r) ∧ Aside0 (kq ≤ k2) ∧ Aside0 (Kd.N (Kd.slice 37 k37) 24 w' w.heap.size (fun k_ => (w.heap.size ≤ k_) ∧ some k_ ≠ (v5 : Value).ownBlock ∧ some k_ ≠ (v509 : Value).ownBlock) (.slice (some ad507) x3_1.length co13) x3_1) ∧ Aside0 (Kd.N (Kd.slice 37 k37) 24 w' w.heap.size (fun k_ => (w.heap.size ≤ k_) ∧ some k_ ≠ ((.slice (some ad507) x3_1.length co13) : Value).ownBlock ∧ some k_ ≠ (v509 : Value).ownBlock) v5 x5_3) ∧ Aside0 (Kd.R k37 37 w' w.heap.size (fun k_ => (w.heap.size ≤ k_)) v509 t508) ∧ Aside0 (Below w.heap.size w w'))
       case atStart => exact ⟨(x5_2), (0), sq, H', ⟨Nat.le_refl _⟩, ⟨by exact Kd.N_mono HO_3.out (fun _ hk => ⟨hk.1.1, ⟨hk.1.2, hk.2⟩⟩)⟩, ⟨by exact Kd.N_mono HO_5.out (fun _ hk => ⟨hk.1.1, ⟨hk.1.2, hk.2⟩⟩)⟩, ⟨by exact Kd.R_mono HO510.out (fun _ hk => hk.1)⟩, ⟨bq⟩⟩
       case round =>
        clear H'; (try clear c10b0); (try clear c11b0); (try clear hx507_0); (try clear p507); (try clear q507); obtain ⟨x5_3, x8_3, rfl, HA, HK3, HO_3, HO_5, HO_7, HB⟩ := hrel
        cases gk with
        | zero => exact absurd HA.out (by simp [spec_l8All.l2])
        | succ k3 =>
         have H := HA.out; clear HA; simp only [spec_l8All.l2] at H
         by_cases c15 : x8_3 < (t508.length : Int)
         ·rw [if_pos c15] at H
          have c15b0 := decide_eq_true c15; clear c15
          revert H; refine ig_ fun c16 H => ?_
          have c16b0 := decide_eq_true c16; clear c16
          revert H; refine ig_ fun c17 H => ?_
          have c17b0 := decide_eq_true c17; clear c17
          revert H; refine ig_ fun c18 H => ?_
          have c18b0 := decide_eq_true c18; clear c18; obtain ⟨t513, A190, H⟩ := Option.bind_eq_some_iff.mp H
          have A19 := ak A190; clear A190; obtain ⟨t516, A200, H⟩ := Option.bind_eq_some_iff.mp H
          have A20 := ak A200; clear A200; obtain ⟨t519, A210, H⟩ := Option.bind_eq_some_iff.mp H
          have A21 := ak A210; clear A210
          by_cases c22 : t519 = true
          ·subst c22
           rw [if_pos rfl] at H; have H' := ak H; clear H; obtain ⟨Ao23, co23, eo23⟩ := Kd.R_slice HO_7.out; subst eo23; (try go_wp2); have n0_ := ak (Kd.N_drew HO_3.out); have n1_ := ak (Kd.N_drew HO_5.out); have n2_ := ak (Kd.R_drew HO_7.out); have n3_ := ak (below_drew1 HB.out); clear HO_3; clear HO_5; clear HO_7; clear HB; have HO_3 := n0_; have HO_5 := n1_; have HO_7 := n2_; have HB := n3_; clear n0_ n1_ n2_ n3_; have p511 : 0 ≤ (x6_2 : Int) := dq; have q511 : x6_2 < (x3_1.length : Int) := dq; obtain ⟨ad511, A511_0, c511_0, e511, hx511_0, hl511_0, hi511_0⟩ := at_L4 (Kd.N_reads' HO_3.out).2.2 x6_2 p511 q511; obtain rfl : ad507 = ad511 := (by injection e511); obtain ⟨ce511, hce511, hMe511, hcc511⟩ := Kd.N_get HO_3.out [] x6_2 p511 (by exact q511); obtain ⟨ua511_0, uc511_0, rfl, ul511_0, ge511_0⟩ := Kd.FK_slice_open hMe511; have hv511_0 := hcc511 0 _ rfl; rw [Nat.add_zero, show ((Kd.slice 37 k37)).sz = 1 from rfl, Nat.mul_one] at hv511_0; replace hv511_0 := Option.some.inj (hv511_0.symm.trans hx511_0)
           injection hv511_0 with hva_ hvn_ hvc_
           rw [hva_] at ge511_0; rw [hvc_] at ul511_0; have HL511_0 := ak (show Kd.V k37 37 _ w.heap.size _ _ (rd_L4 x3_1 x6_2) from Kd.V_mk ul511_0 ge511_0); clear hva_ hvn_ hvc_ ge511_0 ul511_0; clear hcc511 hce511; have HR511_0 := ak hi511_0; have HC511_0 := ak hl511_0; clear hi511_0 hl511_0; replace p511 := eq_true p511; replace q511 := eq_true q511; have p512 : 0 ≤ (x8_3 : Int) := dq; have q512 : x8_3 < (t508.length : Int) := dq; obtain ⟨ad512, e512, hx512_0, hx512_1⟩ := at_T37 (Kd.R_reads' HO_7.out).2.2 x8_3 p512 q512; cases e512; replace p512 := eq_true p512; replace q512 := eq_true q512; refine start_ (n := 11) (S := fun w' => w'.cell? (ad507.add (x6_2).toNat) = some (.slice A511_0 (rd_L4 x3_1 x6_2).length c511_0) ∧ w'.cell? (ad512.add ((x8_3).toNat * 2)) = some (.int .i64 ((rd_T37 t508 x8_3).f0)) ∧ w'.cell? ⟨(ad512.add ((x8_3).toNat * 2)).block, (ad512.add ((x8_3).toNat * 2)).off + 1, none⟩ = some (.int .i64 ((rd_T37 t508 x8_3).f1))) (ds := []) #[Z,Z,Z,Z,Z,Z,Z,Z,Z,Z,Z] (by kernel_rfl) rfl rfl ⟨hx511_0, hx512_0, hx512_1⟩ (fun hHeld => ?_); refine with_tabW spec_l8All.tab13 spec_l8All.bits13 (fun HT_ HW_ => ?_)
           generalize wr.drew = w24 at HO_3 HO_5 HO_7 HB HL511_0 HR511_0 hx511_0 hx512_0 hx512_1 hHeld ⊢
           refine pq_ (i := 0) (N := some 36) #[Y,Z,Z,Z,Z,Z,Z,Z,Z,Z,Z] HT_ ?_; refine pq_ (i := 1) (N := some 37) #[Y,Y,Z,Z,Z,Z,Z,Z,Z,Z,Z] HT_ ?_; refine pq_ (i := 2) (N := some 38) #[Y,Y,Y,Z,Z,Z,Z,Z,Z,Z,Z] HT_ ?_; refine pq_ (i := 4) (N := some 40) #[Y,Y,Y,Z,Y,Z,Z,Z,Z,Z,Z] HT_ ?_; refine pq_ (i := 5) (N := some 41) #[Y,Y,Y,Z,Y,Y,Z,Z,Z,Z,Z] HT_ ?_; refine pq_ (i := 6) (N := some 42) #[Y,Y,Y,Z,Y,Y,Y,Z,Z,Z,Z] HT_ ?_; refine tk_ (i := 3) (N := some 39) #[Y,Y,Y,Y,Y,Y,Y,Z,Z,Z,Z] HT_ HW_ hHeld ?_; refine tk_ (i := 7) (N := some 43) #[Y,Y,Y,Y,Y,Y,Y,Y,Z,Z,Z] HT_ HW_ hHeld ?_; refine one_ (i := 8) (N := some 44) #[Y,Y,Y,Y,Y,Y,Y,Y,Y,Z,Z] rfl rfl (one_of HT_.out (by kernel_rfl)) (by decide) (fun K hK => ?_); refine goes_ Tryz.func40 (by kernel_rfl) rfl #[.slice A511_0 (rd_L4 x3_1 x6_2).length c511_0, .agg #[.int .i64 ((rd_T37 t508 x8_3).f0), .int .i64 ((rd_T37 t508 x8_3).f1)]] (by rfl) rfl rfl aq ?_
           with_reducible refine (spec_l8Put.calls k3 _ _ (rd_L4 x3_1 x6_2) ((rd_T37 t508 x8_3).f0) ((rd_T37 t508 x8_3).f1) t513 _ ?side1 ?side2 A19.out).mono ?_
           (case side1 => exact cq (by repeat ((with_reducible exact HR511_0.out))))
           (case side2 => exact HC511_0.out)
           rintro e w25 ⟨v514, rfl, ho0, hb⟩
           have HS0_ := (hb.cell (World.block_lt_of_cell? _ _ (hHeld.1))).trans (hHeld.1); have HS1_ := (hb.cell (World.block_lt_of_cell? _ _ (hHeld.2.1))).trans (hHeld.2.1); have HS2_ := (hb.cell (World.block_lt_of_cell? _ _ (hHeld.2.2))).trans (hHeld.2.2); refine ⟨_, rfl, ?_⟩; have n0_ := ak (Kd.N_elder' (by exact HO_3.out) (Kd.R_base ho0) hb); have n1_ := ak (Kd.N_elder' (by exact HO_5.out) (Kd.R_base ho0) hb); have n2_ := ak (Kd.R_elder' (rq HO_7) (Kd.R_base ho0) hb); have n3_ := ak (Kd.V_elder' (by exact HL511_0.out) (Kd.R_base ho0) hb); have n4_ := ak (Kd.R_lower (Kd.R_new' (Kd.R_newM (M := fun k_ => (w.heap.size ≤ k_)) ho0 (below_size bq) (fun k_ h_ => h_)) (Kd.R_lt (rq HO_7))) (below_size bq)); have n5_ := ak (Kd.C_below (by repeat ((with_reducible exact HR511_0.out))) hb); have n6_ := ak (below_step bq hb); clear HO_3; clear HO_5; clear HO_7; clear HL511_0; clear HR511_0; clear HB; have HO_3 := n0_; have HO_5 := n1_; have HO_7 := n2_; have HL511_0 := n3_; have HO515 := n4_; have HR511_0 := n5_; have HB := n6_; clear n0_ n1_ n2_ n3_ n4_ n5_ n6_
           (try clear hb)
           (try clear ho0)
           obtain ⟨Ao26, co26, eo26⟩ := Kd.R_slice HO515.out
           (subst eo26)
           refine hK.out _ _ ⟨HS0_, HS1_, HS2_⟩ (fun hHeld => ?_); clear hK K; refine norm_ (a' := ?_) ?_ ?_; rotate_left
           ·show Act.put _ (some 44) _ = _
            simp only [Act.put, sA, sZ, sS, i64_w, i32_w]
            rfl
           refine one_ (i := 9) (N := some 45) #[Y,Y,Y,Y,Y,Y,Y,Y,Y,Y,Z] rfl rfl (one_of HT_.out (by kernel_rfl)) (by decide) (fun K hK => ?_); refine goes_ Tryz.func39 (by kernel_rfl) rfl #[.slice Ao26 t513.length co26] (by rfl) rfl rfl aq ?_
           with_reducible refine (spec_l8Down.calls k3 _ _ t513 t516 _ ?side1 ?side2 A20.out).mono ?_
           (case side1 => exact cq (Kd.R_reads' HO515.out).2.2)
           (case side2 => exact (Kd.R_reads' HO515.out).2.1)
           rintro e w27 ⟨v517, rfl, ho0, hb⟩
           have HS0_ := (hb.cell (World.block_lt_of_cell? _ _ (hHeld.1))).trans (hHeld.1); have HS1_ := (hb.cell (World.block_lt_of_cell? _ _ (hHeld.2.1))).trans (hHeld.2.1); have HS2_ := (hb.cell (World.block_lt_of_cell? _ _ (hHeld.2.2))).trans (hHeld.2.2); refine ⟨_, rfl, ?_⟩; have n0_ := ak (Kd.N_elder' (by exact HO_3.out) (Kd.R_base ho0) hb); have n1_ := ak (Kd.N_elder' (by exact HO_5.out) (Kd.R_base ho0) hb); have n2_ := ak (Kd.R_elder' (rq HO_7) (Kd.R_base ho0) hb); have n3_ := ak (Kd.V_elder' (by exact HL511_0.out) (Kd.R_base ho0) hb); have n4_ := ak (Kd.R_elder' (rq HO515) (Kd.R_base ho0) hb); have n5_ := ak (Kd.R_lower (Kd.R_new' (Kd.R_new' (Kd.R_newM (M := fun k_ => (w.heap.size ≤ k_)) ho0 (below_size bq) (fun k_ h_ => h_)) (Kd.R_lt (rq HO_7))) (Kd.R_lt (rq HO515))) (below_size bq)); have n6_ := ak (Kd.C_below (by repeat ((with_reducible exact HR511_0.out))) hb); have n7_ := ak (below_step bq hb); clear HO_3; clear HO_5; clear HO_7; clear HL511_0; clear HO515; clear HR511_0; clear HB; have HO_3 := n0_; have HO_5 := n1_; have HO_7 := n2_; have HL511_0 := n3_; have HO515 := n4_; have HO518 := n5_; have HR511_0 := n6_; have HB := n7_; clear n0_ n1_ n2_ n3_ n4_ n5_ n6_ n7_
           (try clear hb)
           (try clear ho0)
           refine hK.out _ _ ⟨HS0_, HS1_, HS2_⟩ (fun hHeld => ?_); clear hK K; refine norm_ (a' := ?_) ?_ ?_; rotate_left
           ·show Act.put _ (some 45) _ = _
            simp only [Act.put, sA, sZ, sS, i64_w, i32_w]
            rfl
           refine pq_ (i := 10) (N := some 9) #[Y,Y,Y,Y,Y,Y,Y,Y,Y,Y,Y] HT_ ?_; refine done_ (done_of HT_.out (by kernel_rfl)) ?_; obtain ⟨Ao28, co28, eo28⟩ := Kd.N_slice HO_5.out; subst eo28; obtain ⟨Ao29, co29, eo29⟩ := Kd.R_slice HO518.out; subst eo29
           try go_wp2_with (((with_reducible refine gate_callee (f := 74) rfl ?_); refine goesL_ (some 48) rfl rfl Tryz.func74 (by kernel_rfl) rfl #[.slice Ao28 x5_3.length co28, .slice Ao29 t516.length co29] rfl aq ?_; (with_reducible refine (spec_l8Found.calls k3 _ _ x5_3 _ _ t516 true _ ?side1 ?side2 ?side3 ?side4 A21.out).mono ?_); (case side1 => exact cq (Kd.N_reads' HO_5.out).2.2); (case side2 => exact (Kd.N_reads' HO_5.out).2.1); (case side3 => exact cq (Kd.R_reads' HO518.out).2.2); (case side4 => exact (Kd.R_reads' HO518.out).2.1); rintro e w' ⟨rfl, ⟨nd, rfl⟩⟩; refine ⟨_, rfl, ?_⟩))
           go_roundg k3
           case measure => have := HK1.out; have := HK2.out; have := HK3.out; omega
           case rel => exact ⟨(x5_3), (wrap64 (x8_3 + 1)), sq, H', ⟨by have := HK1.out; have := HK2.out; have := HK3.out; omega⟩, ⟨by (with_reducible repeat (apply Kd.N_drewN)); exact Kd.N_mono HO_3.out (fun _ hk => ⟨hk.1.1.1, ⟨hk.1.1.2.1, hk.1.1.2.2⟩⟩)⟩, ⟨by (with_reducible repeat (apply Kd.N_drewN)); exact Kd.N_mono HO_5.out (fun _ hk => ⟨hk.1.1.1, ⟨hk.1.1.2.1, hk.1.1.2.2⟩⟩)⟩, ⟨by (with_reducible repeat (apply Kd.R_drewN)); exact Kd.R_mono HO_7.out (fun _ hk => hk.1.1)⟩, ⟨bq⟩⟩
          ·replace c22 := Bool.eq_false_iff.mpr c22
           subst c22; rw [if_neg (show ¬ (false = true) by decide)] at H
           revert H; refine ig_ fun c30 H => ?_
           have LMc30 := ak c30; clear c30; obtain ⟨y520, hy520⟩ : ∃ y_ : List (List (S37)), y_ = (x5_3 ++ [t516]) := ⟨_, rfl⟩
           replace H : (spec_l8All.l2 k3 a0 x3_1 x4_1 y520 x6_2 t508 (wrap64 (x8_3 + 1))) = some r := by first | (rw [hy520]; with_reducible exact H) | (have H2_ := (Option.bind_some _ _).symm.trans H; rw [hy520]; with_reducible exact H2_) | (have H2_ := (Option.bind_some _ _).symm.trans H; with_reducible exact H2_) | with_reducible exact H | (rw [hy520]; exact H) | exact H
           have Ny520 := ak hy520; clear hy520; have H' := ak H; clear H; obtain ⟨Ao31, co31, eo31⟩ := Kd.R_slice HO_7.out; subst eo31; (try go_wp2); have n0_ := ak (Kd.N_drew HO_3.out); have n1_ := ak (Kd.N_drew HO_5.out); have n2_ := ak (Kd.R_drew HO_7.out); have n3_ := ak (below_drew1 HB.out); clear HO_3; clear HO_5; clear HO_7; clear HB; have HO_3 := n0_; have HO_5 := n1_; have HO_7 := n2_; have HB := n3_; clear n0_ n1_ n2_ n3_; have p511 : 0 ≤ (x6_2 : Int) := dq; have q511 : x6_2 < (x3_1.length : Int) := dq; obtain ⟨ad511, A511_0, c511_0, e511, hx511_0, hl511_0, hi511_0⟩ := at_L4 (Kd.N_reads' HO_3.out).2.2 x6_2 p511 q511; obtain rfl : ad507 = ad511 := (by injection e511); obtain ⟨ce511, hce511, hMe511, hcc511⟩ := Kd.N_get HO_3.out [] x6_2 p511 (by exact q511); obtain ⟨ua511_0, uc511_0, rfl, ul511_0, ge511_0⟩ := Kd.FK_slice_open hMe511; have hv511_0 := hcc511 0 _ rfl; rw [Nat.add_zero, show ((Kd.slice 37 k37)).sz = 1 from rfl, Nat.mul_one] at hv511_0; replace hv511_0 := Option.some.inj (hv511_0.symm.trans hx511_0)
           injection hv511_0 with hva_ hvn_ hvc_
           rw [hva_] at ge511_0; rw [hvc_] at ul511_0; have HL511_0 := ak (show Kd.V k37 37 _ w.heap.size _ _ (rd_L4 x3_1 x6_2) from Kd.V_mk ul511_0 ge511_0); clear hva_ hvn_ hvc_ ge511_0 ul511_0; clear hcc511 hce511; have HR511_0 := ak hi511_0; have HC511_0 := ak hl511_0; clear hi511_0 hl511_0; replace p511 := eq_true p511; replace q511 := eq_true q511; have p512 : 0 ≤ (x8_3 : Int) := dq; have q512 : x8_3 < (t508.length : Int) := dq; obtain ⟨ad512, e512, hx512_0, hx512_1⟩ := at_T37 (Kd.R_reads' HO_7.out).2.2 x8_3 p512 q512; cases e512; replace p512 := eq_true p512; replace q512 := eq_true q512; refine start_ (n := 11) (S := fun w' => w'.cell? (ad507.add (x6_2).toNat) = some (.slice A511_0 (rd_L4 x3_1 x6_2).length c511_0) ∧ w'.cell? (ad512.add ((x8_3).toNat * 2)) = some (.int .i64 ((rd_T37 t508 x8_3).f0)) ∧ w'.cell? ⟨(ad512.add ((x8_3).toNat * 2)).block, (ad512.add ((x8_3).toNat * 2)).off + 1, none⟩ = some (.int .i64 ((rd_T37 t508 x8_3).f1))) (ds := []) #[Z,Z,Z,Z,Z,Z,Z,Z,Z,Z,Z] (by kernel_rfl) rfl rfl ⟨hx511_0, hx512_0, hx512_1⟩ (fun hHeld => ?_); refine with_tabW spec_l8All.tab13 spec_l8All.bits13 (fun HT_ HW_ => ?_)
           generalize wr.drew = w32 at HO_3 HO_5 HO_7 HB HL511_0 HR511_0 hx511_0 hx512_0 hx512_1 hHeld ⊢
           refine pq_ (i := 0) (N := some 36) #[Y,Z,Z,Z,Z,Z,Z,Z,Z,Z,Z] HT_ ?_; refine pq_ (i := 1) (N := some 37) #[Y,Y,Z,Z,Z,Z,Z,Z,Z,Z,Z] HT_ ?_; refine pq_ (i := 2) (N := some 38) #[Y,Y,Y,Z,Z,Z,Z,Z,Z,Z,Z] HT_ ?_; refine pq_ (i := 4) (N := some 40) #[Y,Y,Y,Z,Y,Z,Z,Z,Z,Z,Z] HT_ ?_; refine pq_ (i := 5) (N := some 41) #[Y,Y,Y,Z,Y,Y,Z,Z,Z,Z,Z] HT_ ?_; refine pq_ (i := 6) (N := some 42) #[Y,Y,Y,Z,Y,Y,Y,Z,Z,Z,Z] HT_ ?_; refine tk_ (i := 3) (N := some 39) #[Y,Y,Y,Y,Y,Y,Y,Z,Z,Z,Z] HT_ HW_ hHeld ?_; refine tk_ (i := 7) (N := some 43) #[Y,Y,Y,Y,Y,Y,Y,Y,Z,Z,Z] HT_ HW_ hHeld ?_; refine one_ (i := 8) (N := some 44) #[Y,Y,Y,Y,Y,Y,Y,Y,Y,Z,Z] rfl rfl (one_of HT_.out (by kernel_rfl)) (by decide) (fun K hK => ?_); refine goes_ Tryz.func40 (by kernel_rfl) rfl #[.slice A511_0 (rd_L4 x3_1 x6_2).length c511_0, .agg #[.int .i64 ((rd_T37 t508 x8_3).f0), .int .i64 ((rd_T37 t508 x8_3).f1)]] (by rfl) rfl rfl aq ?_
           with_reducible refine (spec_l8Put.calls k3 _ _ (rd_L4 x3_1 x6_2) ((rd_T37 t508 x8_3).f0) ((rd_T37 t508 x8_3).f1) t513 _ ?side1 ?side2 A19.out).mono ?_
           (case side1 => exact cq (by repeat ((with_reducible exact HR511_0.out))))
           (case side2 => exact HC511_0.out)
           rintro e w33 ⟨v514, rfl, ho0, hb⟩
           have HS0_ := (hb.cell (World.block_lt_of_cell? _ _ (hHeld.1))).trans (hHeld.1); have HS1_ := (hb.cell (World.block_lt_of_cell? _ _ (hHeld.2.1))).trans (hHeld.2.1); have HS2_ := (hb.cell (World.block_lt_of_cell? _ _ (hHeld.2.2))).trans (hHeld.2.2); refine ⟨_, rfl, ?_⟩; have n0_ := ak (Kd.N_elder' (by exact HO_3.out) (Kd.R_base ho0) hb); have n1_ := ak (Kd.N_elder' (by exact HO_5.out) (Kd.R_base ho0) hb); have n2_ := ak (Kd.R_elder' (rq HO_7) (Kd.R_base ho0) hb); have n3_ := ak (Kd.V_elder' (by exact HL511_0.out) (Kd.R_base ho0) hb); have n4_ := ak (Kd.R_lower (Kd.R_new' (Kd.R_newM (M := fun k_ => (w.heap.size ≤ k_)) ho0 (below_size bq) (fun k_ h_ => h_)) (Kd.R_lt (rq HO_7))) (below_size bq)); have n5_ := ak (Kd.C_below (by repeat ((with_reducible exact HR511_0.out))) hb); have n6_ := ak (below_step bq hb); clear HO_3; clear HO_5; clear HO_7; clear HL511_0; clear HR511_0; clear HB; have HO_3 := n0_; have HO_5 := n1_; have HO_7 := n2_; have HL511_0 := n3_; have HO515 := n4_; have HR511_0 := n5_; have HB := n6_; clear n0_ n1_ n2_ n3_ n4_ n5_ n6_
           (try clear hb)
           (try clear ho0)
           obtain ⟨Ao34, co34, eo34⟩ := Kd.R_slice HO515.out
           (subst eo34)
           refine hK.out _ _ ⟨HS0_, HS1_, HS2_⟩ (fun hHeld => ?_); clear hK K; refine norm_ (a' := ?_) ?_ ?_; rotate_left
           ·show Act.put _ (some 44) _ = _
            simp only [Act.put, sA, sZ, sS, i64_w, i32_w]
            rfl
           refine one_ (i := 9) (N := some 45) #[Y,Y,Y,Y,Y,Y,Y,Y,Y,Y,Z] rfl rfl (one_of HT_.out (by kernel_rfl)) (by decide) (fun K hK => ?_); refine goes_ Tryz.func39 (by kernel_rfl) rfl #[.slice Ao34 t513.length co34] (by rfl) rfl rfl aq ?_
           with_reducible refine (spec_l8Down.calls k3 _ _ t513 t516 _ ?side1 ?side2 A20.out).mono ?_
           (case side1 => exact cq (Kd.R_reads' HO515.out).2.2)
           (case side2 => exact (Kd.R_reads' HO515.out).2.1)
           rintro e w35 ⟨v517, rfl, ho0, hb⟩
           have HS0_ := (hb.cell (World.block_lt_of_cell? _ _ (hHeld.1))).trans (hHeld.1); have HS1_ := (hb.cell (World.block_lt_of_cell? _ _ (hHeld.2.1))).trans (hHeld.2.1); have HS2_ := (hb.cell (World.block_lt_of_cell? _ _ (hHeld.2.2))).trans (hHeld.2.2); refine ⟨_, rfl, ?_⟩; have n0_ := ak (Kd.N_elder' (by exact HO_3.out) (Kd.R_base ho0) hb); have n1_ := ak (Kd.N_elder' (by exact HO_5.out) (Kd.R_base ho0) hb); have n2_ := ak (Kd.R_elder' (rq HO_7) (Kd.R_base ho0) hb); have n3_ := ak (Kd.V_elder' (by exact HL511_0.out) (Kd.R_base ho0) hb); have n4_ := ak (Kd.R_elder' (rq HO515) (Kd.R_base ho0) hb); have n5_ := ak (Kd.R_lower (Kd.R_new' (Kd.R_new' (Kd.R_newM (M := fun k_ => (w.heap.size ≤ k_)) ho0 (below_size bq) (fun k_ h_ => h_)) (Kd.R_lt (rq HO_7))) (Kd.R_lt (rq HO515))) (below_size bq)); have n6_ := ak (Kd.C_below (by repeat ((with_reducible exact HR511_0.out))) hb); have n7_ := ak (below_step bq hb); clear HO_3; clear HO_5; clear HO_7; clear HL511_0; clear HO515; clear HR511_0; clear HB; have HO_3 := n0_; have HO_5 := n1_; have HO_7 := n2_; have HL511_0 := n3_; have HO515 := n4_; have HO518 := n5_; have HR511_0 := n6_; have HB := n7_; clear n0_ n1_ n2_ n3_ n4_ n5_ n6_ n7_
           (try clear hb)
           (try clear ho0)
           refine hK.out _ _ ⟨HS0_, HS1_, HS2_⟩ (fun hHeld => ?_); clear hK K; refine norm_ (a' := ?_) ?_ ?_; rotate_left
           ·show Act.put _ (some 45) _ = _
            simp only [Act.put, sA, sZ, sS, i64_w, i32_w]
            rfl
           refine pq_ (i := 10) (N := some 9) #[Y,Y,Y,Y,Y,Y,Y,Y,Y,Y,Y] HT_ ?_; refine done_ (done_of HT_.out (by kernel_rfl)) ?_; obtain ⟨Ao36, co36, eo36⟩ := Kd.N_slice HO_5.out; subst eo36; obtain ⟨Ao37, co37, eo37⟩ := Kd.R_slice HO518.out; subst eo37
           try go_wp2_with (first | ((with_reducible refine gate_callee (f := 74) rfl ?_); refine goesL_ (some 48) rfl rfl Tryz.func74 (by kernel_rfl) rfl #[.slice Ao36 x5_3.length co36, .slice Ao37 t516.length co37] rfl aq ?_; (with_reducible refine (spec_l8Found.calls k3 _ _ x5_3 _ _ t516 false _ ?side1 ?side2 ?side3 ?side4 A21.out).mono ?_); (case side1 => exact cq (Kd.N_reads' HO_5.out).2.2); (case side2 => exact (Kd.N_reads' HO_5.out).2.1); (case side3 => exact cq (Kd.R_reads' HO518.out).2.2); (case side4 => exact (Kd.R_reads' HO518.out).2.1); rintro e w' ⟨rfl, ⟨nd, rfl⟩⟩; refine ⟨_, rfl, ?_⟩) | ((with_reducible refine gate_builtin (b := .append) (xs := #[.tmp 50, .tmp 52]) rfl ?_); at_builtin; refine Kd.N_append (Kd.slice 37 k37) (w0 := w) w.heap.size rfl (.tmp 50) (.tmp 52) 58 24 (.slice none 0 0) 24 rfl Tryz.underlying58 info24 rfl (by decide) (by omega) (.slice Ao36 x5_3.length co36) x5_3 t516 [.slice Ao37 t516.length co37] (fun k_ => (w.heap.size ≤ k_) ∧ some k_ ≠ (.slice (some ad507) x3_1.length co13 : Value).ownBlock ∧ some k_ ≠ (.slice (some ad512) t508.length co31 : Value).ownBlock ∧ some k_ ≠ (.slice Ao34 t513.length co34 : Value).ownBlock) (fun k_ => ((fun k_ => (w.heap.size ≤ k_) ∧ some k_ ≠ (.slice (some ad507) x3_1.length co13 : Value).ownBlock ∧ some k_ ≠ (.slice (some ad512) t508.length co31 : Value).ownBlock ∧ some k_ ≠ (.slice Ao34 t513.length co34 : Value).ownBlock)) k_ ∧ some k_ ≠ (.slice Ao36 x5_3.length co36 : Value).ownBlock) rfl rfl ?aP (fun _ hk => hk) ?aF ?aO ?aB ?aS ?aL ?_; (case aP => exact (Kd.FK_slice_mk (Kd.R_reads' (Kd.R_mono (ok' := (fun k_ => ((fun k_ => (w.heap.size ≤ k_) ∧ some k_ ≠ (.slice (some ad507) x3_1.length co13 : Value).ownBlock ∧ some k_ ≠ (.slice (some ad512) t508.length co31 : Value).ownBlock ∧ some k_ ≠ (.slice Ao34 t513.length co34 : Value).ownBlock)) k_ ∧ some k_ ≠ (.slice Ao36 x5_3.length co36 : Value).ownBlock)) (Kd.R_apart' (Kd.R_apart' (HO518.out) (Kd.N_typed HO_3.out) (by decide)) (Kd.N_typed HO_5.out) (by decide)) (fun k_ hk => ⟨⟨hk.1.1.1.1.1, ⟨hk.1.2, ⟨hk.1.1.1.2, hk.1.1.2⟩⟩⟩, hk.2⟩))).2.1 (Kd.R_F (Kd.R_mono (ok' := (fun k_ => ((fun k_ => (w.heap.size ≤ k_) ∧ some k_ ≠ (.slice (some ad507) x3_1.length co13 : Value).ownBlock ∧ some k_ ≠ (.slice (some ad512) t508.length co31 : Value).ownBlock ∧ some k_ ≠ (.slice Ao34 t513.length co34 : Value).ownBlock)) k_ ∧ some k_ ≠ (.slice Ao36 x5_3.length co36 : Value).ownBlock)) (Kd.R_apart' (Kd.R_apart' (HO518.out) (Kd.N_typed HO_3.out) (by decide)) (Kd.N_typed HO_5.out) (by decide)) (fun k_ hk => ⟨⟨hk.1.1.1.1.1, ⟨hk.1.2, ⟨hk.1.1.1.2, hk.1.1.2⟩⟩⟩, hk.2⟩))))); (case aB => exact bq); (case aF => exact (fun k_ hk => ⟨(Nat.le_trans (below_size bq) hk), Kd.fresh' (Kd.N_lt (by (with_reducible repeat (apply Kd.N_drewN)); exact HO_3.out)) k_ hk, Kd.fresh' (Kd.R_lt (rq HO_7)) k_ hk, Kd.fresh' (Kd.R_lt (rq HO515)) k_ hk⟩)); (case aO => exact (by (with_reducible repeat (apply Kd.N_drewN)); exact Kd.N_mono HO_5.out (fun _ hk => ⟨hk.1.1.1, ⟨hk.1.1.2.1, ⟨hk.1.1.2.2, hk.1.2⟩⟩⟩))); (case aS => exact (below_size bq)); (case aL => have := LMc30.out; omega); intro v521 w38 ho hb hg hat; rw [← Ny520.out] at ho; have n0_ := ak (Kd.N_afterv (ok := (fun k_ => (w.heap.size ≤ k_) ∧ some k_ ≠ (.slice (some ad512) t508.length co31 : Value).ownBlock ∧ some k_ ≠ (.slice Ao34 t513.length co34 : Value).ownBlock ∧ some k_ ≠ (.slice Ao37 t516.length co37 : Value).ownBlock)) (by (with_reducible repeat (apply Kd.N_drewN)); exact Kd.N_mono HO_3.out (fun _ hk => ⟨⟨hk.1.1.1, ⟨hk.1.1.2.2, ⟨hk.1.2, hk.2⟩⟩⟩, hk.1.1.2.1⟩)) hg hat); have n1_ := ak (Kd.R_over' (rq HO_7) (Kd.N_typed (by (with_reducible repeat (apply Kd.N_drewN)); exact HO_5.out)) (by decide) hg); have n2_ := ak (Kd.V_afterv (ok := (fun k_ => (w.heap.size ≤ k_) ∧ some k_ ≠ (.slice (some ad507) x3_1.length co13 : Value).ownBlock ∧ some k_ ≠ (.slice (some ad512) t508.length co31 : Value).ownBlock ∧ some k_ ≠ (.slice Ao34 t513.length co34 : Value).ownBlock ∧ some k_ ≠ (.slice Ao37 t516.length co37 : Value).ownBlock)) (by (with_reducible repeat (apply Kd.V_drewN)); exact Kd.V_mono HL511_0.out (fun _ hk => ⟨⟨hk.1.1.1.1, ⟨hk.1.1.2, ⟨hk.1.1.1.2.2, ⟨hk.1.2, hk.2⟩⟩⟩⟩, hk.1.1.1.2.1⟩)) hg hat); have n3_ := ak (Kd.R_over' (rq HO515) (Kd.N_typed (by (with_reducible repeat (apply Kd.N_drewN)); exact HO_5.out)) (by decide) hg); have n4_ := ak (hb); have n5_ := ak (ho); clear HO_3; clear HO_7; clear HL511_0; clear HO515; clear HB; clear HO_5; clear HO518; have HO_3 := n0_; have HO_7 := n1_; have HL511_0 := n2_; have HO515 := n3_; have HB := n4_; have HO522 := n5_; clear n0_ n1_ n2_ n3_ n4_ n5_; clear ho hb hg hat))
           go_roundg k3
           case measure => have := HK1.out; have := HK2.out; have := HK3.out; omega
           case rel => exact ⟨(y520), (wrap64 (x8_3 + 1)), sq, H', ⟨by have := HK1.out; have := HK2.out; have := HK3.out; omega⟩, ⟨by exact Kd.N_mono HO_3.out (fun _ hk => ⟨hk.1.1, ⟨hk.2, hk.1.2.1⟩⟩)⟩, ⟨by exact Kd.N_mono HO522.out (fun _ hk => ⟨hk.1, ⟨hk.2.1, hk.2.2.1⟩⟩)⟩, ⟨by exact Kd.R_mono HO_7.out (fun _ hk => hk.1.1)⟩, ⟨bq⟩⟩
         ·rw [if_neg c15] at H
          have c15b0 := decide_eq_false c15; clear c15; have H' := ak H; clear H; obtain ⟨Ao39, co39, eo39⟩ := Kd.R_slice HO_7.out; subst eo39; go_wp2; go_roundg k3
          case measure => have := HK1.out; have := HK2.out; have := HK3.out; omega
          case rel => exact ⟨(x5_3), (wrap64 (x6_2 + 1)), sq, H', ⟨by have := HK1.out; have := HK2.out; have := HK3.out; omega⟩, ⟨by exact Kd.N_mono HO_3.out (fun _ hk => ⟨hk.1, hk.2.1⟩)⟩, ⟨by exact Kd.N_mono HO_5.out (fun _ hk => ⟨hk.1, hk.2.1⟩)⟩, ⟨bq⟩⟩
      ·rw [if_neg c10] at H
       have c10b0 := decide_eq_false c10; clear c10; have H' := ak H; clear H; obtain ⟨Ao40, co40, eo40⟩ := Kd.N_slice HO_3.out; subst eo40; go_wp2; go_roundg k2
       case measure => have := HK1.out; have := HK2.out; omega
       case rel => exact ⟨(x5_2), (wrap64 (x4_1 + 1)), sq, H', ⟨by have := HK1.out; have := HK2.out; omega⟩, ⟨by exact Kd.N_mono HO_5.out (fun _ hk => hk.1)⟩, ⟨bq⟩⟩
   ·rw [if_neg c7] at H
    have c7b0 := decide_eq_false c7; clear c7; obtain rfl := Option.some.inj H; go_wp2; go_ret; exact ⟨_, eq_, by exact HO_3.out, bq⟩
/-! ### spec_CountBodies: function 18 -/
def spec_CountBodies.l0 : Nat → List (List (S37)) → Int → Int → Option (Int × Int × Bool)
 | 0, _, _, _ => none
 | k + 1, x5, x6, x7 => if x7 < (x5.length : Int) then (if 0 ≤ x7 then ((spec_l8Side.f k (rd_L4 x5 x7)).bind fun t528 => (if t528 = 0 then (spec_CountBodies.l0 k x5 (wrap64 (x6 + 1)) (wrap64 (x7 + 1))) else (spec_CountBodies.l0 k x5 x6 (wrap64 (x7 + 1))))) else (none)) else (some ((x5.length : Int), x6, true))
def spec_CountBodies.f (k : Nat) (a0 : Int) : Option (Int × Int × Bool) := (spec_l1In.f a0 1 6).bind fun t523 => (if t523 = true then ((spec_l8All.f k a0).bind fun t524 => (spec_CountBodies.l0 k t524 0 0)) else (some (0, 0, false)))
theorem spec_CountBodies.calls (k : Nat) (a0 : Int) (r1 : Int) (r2 : Int) (r3 : Bool) (w : World) (h : spec_CountBodies.f k a0 = some (r1, r2, r3)) :
  Calls Tryz.prog 18 #[.int .i64 a0] w fun e w' => e = .returned (.tuple #[.int .i64 r1, .int .i64 r2, .bool r3]) ∧ Below w.heap.size w w' := by
 have HB := ak (Below.refl w.heap.size w); have H : ((spec_l1In.f a0 1 6).bind fun t523 => (if t523 = true then ((spec_l8All.f k a0).bind fun t524 => (spec_CountBodies.l0 k t524 0 0)) else (some (0, 0, false)))) = some (r1, r2, r3) := h; clear h; obtain ⟨t523, A20, H⟩ := Option.bind_eq_some_iff.mp H
 have A2 := ak A20; clear A20
 by_cases c3 : t523 = true
 ·subst c3
  rw [if_pos rfl] at H; obtain ⟨t524, A40, H⟩ := Option.bind_eq_some_iff.mp H
  have A4 := ak A40; clear A40; have H' := ak H; clear H
  go_enter Tryz.func18, Tryz.ntmps18
  go_wp2_with (first | ((with_reducible refine gate_callee (f := 48) rfl ?_); refine goesL_ (some 9) rfl rfl Tryz.func48 (by kernel_rfl) rfl #[.int .i64 a0, .int .i64 1, .int .i64 6] rfl aq ?_; (with_reducible refine (spec_l1In.calls a0 1 6 true _ A2.out).mono ?_); rintro e w' ⟨rfl, ⟨nd, rfl⟩⟩; refine ⟨_, rfl, ?_⟩) | ((with_reducible refine gate_callee (f := 49) rfl ?_); refine goesL_ (some 12) rfl rfl Tryz.func49 (by kernel_rfl) rfl #[.int .i64 a0] rfl aq ?_; (with_reducible refine (spec_l8All.calls k a0 t524 _ A4.out).mono ?_); rintro e w5 ⟨v525, rfl, ho0, hb⟩; refine ⟨_, rfl, ?_⟩; have n0_ := ak (Kd.N_lower (Kd.N_mono (ok' := fun k_ => True) ho0 (fun k_ hk_ => trivial)) (below_size bq)); have n1_ := ak (below_step bq hb); clear HB; have HO526 := n0_; have HB := n1_; clear n0_ n1_; (try clear hb); (try clear ho0)))
  go_loopg [6, 7] k (fun kq v6 v7 w' => ∃ (x6_1 : Int) (x7_1 : Int), v6 = .int .i64 x6_1 ∧ v7 = .int .i64 x7_1 ∧ Aside0 (spec_CountBodies.l0 kq t524 x6_1 x7_1 = some (r1, r2, r3)) ∧ Aside0 (kq ≤ k) ∧ Aside0 (Kd.N (Kd.slice 37 k37) 24 w' w.heap.size (fun _ => True) v525 t524) ∧ Aside0 (Below w.heap.size w w'))
  case atStart => exact ⟨(0), (0), sq, sq, H', ⟨Nat.le_refl _⟩, ⟨by exact HO526.out⟩, ⟨bq⟩⟩
  case round =>
   clear H'; obtain ⟨x6_1, x7_1, rfl, rfl, HA, HK1, HO_5, HB⟩ := hrel
   cases gk with
   | zero => exact absurd HA.out (by simp [spec_CountBodies.l0])
   | succ k1 =>
    have H := HA.out; clear HA; simp only [spec_CountBodies.l0] at H
    by_cases c6 : x7_1 < (t524.length : Int)
    ·rw [if_pos c6] at H
     have c6b0 := decide_eq_true c6; clear c6
     revert H; refine ig_ fun c7 H => ?_
     have c7b0 := decide_eq_true c7; clear c7; obtain ⟨t528, A80, H⟩ := Option.bind_eq_some_iff.mp H
     have A8 := ak A80; clear A80
     by_cases c9 : t528 = 0
     ·rw [if_pos c9] at H
      have c9b0 : (t528 == 0) = true := beq_iff_eq.mpr c9; have c9b1 : (t528 != 0) = false := bne_eq_false_iff_eq.mpr c9; clear c9; have H' := ak H; clear H; obtain ⟨Ao10, co10, eo10⟩ := Kd.N_slice HO_5.out; subst eo10; have p527 : 0 ≤ (x7_1 : Int) := dq; have q527 : x7_1 < (t524.length : Int) := dq; obtain ⟨ad527, A527_0, c527_0, e527, hx527_0, hl527_0, hi527_0⟩ := at_L4 (Kd.N_reads' HO_5.out).2.2 x7_1 p527 q527; cases e527; obtain ⟨ce527, hce527, hMe527, hcc527⟩ := Kd.N_get HO_5.out [] x7_1 p527 (by exact q527); obtain ⟨ua527_0, uc527_0, rfl, ul527_0, ge527_0⟩ := Kd.FK_slice_open hMe527; have hv527_0 := hcc527 0 _ rfl; rw [Nat.add_zero, show ((Kd.slice 37 k37)).sz = 1 from rfl, Nat.mul_one] at hv527_0; replace hv527_0 := Option.some.inj (hv527_0.symm.trans hx527_0)
      injection hv527_0 with hva_ hvn_ hvc_
      rw [hva_] at ge527_0; rw [hvc_] at ul527_0; have HL527_0 := ak (show Kd.V k37 37 _ w.heap.size _ _ (rd_L4 t524 x7_1) from Kd.V_mk ul527_0 ge527_0); clear hva_ hvn_ hvc_ ge527_0 ul527_0; clear hcc527 hce527; have HR527_0 := ak hi527_0; have HC527_0 := ak hl527_0; clear hi527_0 hl527_0; replace p527 := eq_true p527; replace q527 := eq_true q527
      go_wp2_with (((with_reducible refine gate_callee (f := 38) rfl ?_); refine goesL_ (some 23) rfl rfl Tryz.func38 (by kernel_rfl) rfl #[.slice A527_0 (rd_L4 t524 x7_1).length c527_0] rfl aq ?_; (with_reducible refine (spec_l8Side.calls k1 _ _ (rd_L4 t524 x7_1) t528 _ ?side1 ?side2 A8.out).mono ?_); (case side1 => exact cq (by repeat ((with_reducible exact HR527_0.out)))); (case side2 => exact HC527_0.out); rintro e w' ⟨rfl, ⟨nd, rfl⟩⟩; refine ⟨_, rfl, ?_⟩))
      go_roundg k1
      case measure => have := HK1.out; omega
      case rel => exact ⟨(wrap64 (x6_1 + 1)), (wrap64 (x7_1 + 1)), sq, sq, H', ⟨by have := HK1.out; omega⟩, ⟨by (with_reducible repeat (apply Kd.N_drewN)); exact HO_5.out⟩, ⟨bq⟩⟩
     ·rw [if_neg c9] at H
      have c9b0 : (t528 == 0) = false := beq_eq_false_iff_ne.mpr c9; have c9b1 : (t528 != 0) = true := bne_iff_ne.mpr c9; have H' := ak H; clear H; obtain ⟨Ao11, co11, eo11⟩ := Kd.N_slice HO_5.out; subst eo11; have p527 : 0 ≤ (x7_1 : Int) := dq; have q527 : x7_1 < (t524.length : Int) := dq; obtain ⟨ad527, A527_0, c527_0, e527, hx527_0, hl527_0, hi527_0⟩ := at_L4 (Kd.N_reads' HO_5.out).2.2 x7_1 p527 q527; cases e527; obtain ⟨ce527, hce527, hMe527, hcc527⟩ := Kd.N_get HO_5.out [] x7_1 p527 (by exact q527); obtain ⟨ua527_0, uc527_0, rfl, ul527_0, ge527_0⟩ := Kd.FK_slice_open hMe527; have hv527_0 := hcc527 0 _ rfl; rw [Nat.add_zero, show ((Kd.slice 37 k37)).sz = 1 from rfl, Nat.mul_one] at hv527_0; replace hv527_0 := Option.some.inj (hv527_0.symm.trans hx527_0)
      injection hv527_0 with hva_ hvn_ hvc_
      rw [hva_] at ge527_0; rw [hvc_] at ul527_0; have HL527_0 := ak (show Kd.V k37 37 _ w.heap.size _ _ (rd_L4 t524 x7_1) from Kd.V_mk ul527_0 ge527_0); clear hva_ hvn_ hvc_ ge527_0 ul527_0; clear hcc527 hce527; have HR527_0 := ak hi527_0; have HC527_0 := ak hl527_0; clear hi527_0 hl527_0; replace p527 := eq_true p527; replace q527 := eq_true q527
      go_wp2_with (((with_reducible refine gate_callee (f := 38) rfl ?_); refine goesL_ (some 23) rfl rfl Tryz.func38 (by kernel_rfl) rfl #[.slice A527_0 (rd_L4 t524 x7_1).length c527_0] rfl aq ?_; (with_reducible refine (spec_l8Side.calls k1 _ _ (rd_L4 t524 x7_1) t528 _ ?side1 ?side2 A8.out).mono ?_); (case side1 => exact cq (by repeat ((with_reducible exact HR527_0.out)))); (case side2 => exact HC527_0.out); rintro e w' ⟨rfl, ⟨nd, rfl⟩⟩; refine ⟨_, rfl, ?_⟩))
      go_roundg k1
      case measure => have := HK1.out; omega
      case rel => exact ⟨(x6_1), (wrap64 (x7_1 + 1)), sq, sq, H', ⟨by have := HK1.out; omega⟩, ⟨by (with_reducible repeat (apply Kd.N_drewN)); exact HO_5.out⟩, ⟨bq⟩⟩
    ·rw [if_neg c6] at H
     have c6b0 := decide_eq_false c6; clear c6; simp only [Option.some.injEq, Prod.mk.injEq] at H; obtain ⟨rfl, rfl, rfl⟩ := H; obtain ⟨Ao12, co12, eo12⟩ := Kd.N_slice HO_5.out; subst eo12; go_wp2
     go_ret3
     exact ⟨eq_, bq⟩
 ·replace c3 := Bool.eq_false_iff.mpr c3
  subst c3; rw [if_neg (show ¬ (false = true) by decide)] at H; simp only [Option.some.injEq, Prod.mk.injEq] at H; obtain ⟨rfl, rfl, rfl⟩ := H
  go_enter Tryz.func18, Tryz.ntmps18
  go_wp2_with (((with_reducible refine gate_callee (f := 48) rfl ?_); refine goesL_ (some 9) rfl rfl Tryz.func48 (by kernel_rfl) rfl #[.int .i64 a0, .int .i64 1, .int .i64 6] rfl aq ?_; (with_reducible refine (spec_l1In.calls a0 1 6 false _ A2.out).mono ?_); rintro e w' ⟨rfl, ⟨nd, rfl⟩⟩; refine ⟨_, rfl, ?_⟩))
  go_ret3
  exact ⟨eq_, bq⟩
/-! ### impl_PutDown: function 19 -/
def impl_PutDown.l0 : Nat → List (S37) → List (S37) → Int → Int → Option ((List (S37)) × Bool)
 | 0, _, _, _, _ => none
 | k + 1, x0, x11, x12, x13 => if x13 < x12 then (if 0 ≤ x13 then (if x13 < (x11.length : Int) then ((impl_within.f ((rd_T37 x11 x13).f0) (-60) 60).bind fun t532 => (if t532 = true then ((impl_within.f ((rd_T37 x11 x13).f1) (-60) 60).bind fun t533 => (if t533 = true then (impl_PutDown.l0 k x0 x11 x12 (wrap64 (x13 + 1))) else (some (([] : List (S37)), false)))) else (some (([] : List (S37)), false)))) else (none)) else (none)) else ((impl_put.f k x0).bind fun t534 => ((impl_IsBody.f k t534).bind fun t537 => (if t537 = true then (some (t534, true)) else (some (([] : List (S37)), false)))))
def impl_PutDown.f (k : Nat) (l0 : List (S37)) : Option ((List (S37)) × Bool) := (impl_within.f (l0.length : Int) 1 12).bind fun t529 => (if t529 = true then (impl_PutDown.l0 k l0 l0 (l0.length : Int) 0) else (some (([] : List (S37)), false)))
theorem impl_PutDown.calls (k : Nat) (A0 : Option Addr) (c0 : Nat) (l0 : List (S37)) (r1 : List (S37)) (r2 : Bool) (w : World) (hr0 : Kd.C k37 w A0 l0.length l0) (hc0 : l0.length ≤ c0) (h : impl_PutDown.f k l0 = some (r1, r2)) :
  Calls Tryz.prog 19 #[.slice A0 l0.length c0] w fun e w' => ∃ v0_ : Value, e = .returned (.tuple #[v0_, .bool r2]) ∧ Kd.R k37 37 w' w.heap.size (fun _ => True) v0_ r1 ∧ Below w.heap.size w w' := by
 have hu37 := Tryz.underlying37; have HR0 := ak hr0; have HC0 := ak hc0; clear hr0 hc0; have HB := ak (Below.refl w.heap.size w); have H : ((impl_within.f (l0.length : Int) 1 12).bind fun t529 => (if t529 = true then (impl_PutDown.l0 k l0 l0 (l0.length : Int) 0) else (some (([] : List (S37)), false)))) = some (r1, r2) := h; clear h; obtain ⟨t529, A20, H⟩ := Option.bind_eq_some_iff.mp H
 have A2 := ak A20; clear A20
 by_cases c3 : t529 = true
 ·subst c3
  rw [if_pos rfl] at H; have H' := ak H; clear H
  go_enter Tryz.func19, Tryz.ntmps19
  go_wp2_with (((with_reducible refine gate_callee (f := 26) rfl ?_); refine goesL_ (some 9) rfl rfl Tryz.func26 (by kernel_rfl) rfl #[.int .i64 (l0.length : Int), .int .i64 1, .int .i64 12] rfl aq ?_; (with_reducible refine (impl_within.calls (l0.length : Int) 1 12 true _ A2.out).mono ?_); rintro e w' ⟨rfl, ⟨nd, rfl⟩⟩; refine ⟨_, rfl, ?_⟩))
  go_loopg [13] k (fun kq v13 w' => ∃ (x13_1 : Int), v13 = .int .i64 x13_1 ∧ Aside0 (impl_PutDown.l0 kq l0 l0 (l0.length : Int) x13_1 = some (r1, r2)) ∧ Aside0 (kq ≤ k) ∧ Aside0 (Below w.heap.size w w'))
  case atStart => exact ⟨(0), sq, H', ⟨Nat.le_refl _⟩, ⟨bq⟩⟩
  case round =>
   clear H'; obtain ⟨x13_1, rfl, HA, HK1, HB⟩ := hrel
   cases gk with
   | zero => exact absurd HA.out (by simp [impl_PutDown.l0])
   | succ k1 =>
    have H := HA.out; clear HA; simp only [impl_PutDown.l0] at H
    by_cases c4 : x13_1 < (l0.length : Int)
    ·rw [if_pos c4] at H
     have c4b0 := decide_eq_true c4; clear c4
     revert H; refine ig_ fun c5 H => ?_
     have c5b0 := decide_eq_true c5; clear c5
     revert H; refine ig_ fun c6 H => ?_
     have c6b0 := decide_eq_true c6; clear c6; obtain ⟨t532, A70, H⟩ := Option.bind_eq_some_iff.mp H
     have A7 := ak A70; clear A70
     by_cases c8 : t532 = true
     ·subst c8
      rw [if_pos rfl] at H; obtain ⟨t533, A90, H⟩ := Option.bind_eq_some_iff.mp H
      have A9 := ak A90; clear A90
      by_cases c10 : t533 = true
      ·subst c10
       rw [if_pos rfl] at H; have H' := ak H; clear H; have p530 : 0 ≤ (x13_1 : Int) := dq; have q530 : x13_1 < (l0.length : Int) := dq; obtain ⟨ad530, e530, hx530_0, hx530_1⟩ := at_T37 HR0.out x13_1 p530 q530; cases e530; replace hx530_0 := hb_ HB hx530_0; replace hx530_1 := hb_ HB hx530_1; replace p530 := eq_true p530; replace q530 := eq_true q530
       go_wp2_with (first | ((with_reducible refine gate_dst (N := 5) rfl ?_); refine box_event ?hg (N := 5) ?hd (cs := #[.int .i64 0, .int .i64 0]) (t := 37) ?hr ?_; (case hd => rfl); (case hg => rfl); (case hr => (go_simp; done)); intro gb531 hg w11 hbox hb; have n0_ := ak (below_step bq hb); have n1_ := ak (hbox); have n2_ := ak ((by rw [hg]; exact (below_size bq) : w.heap.size ≤ gb531)); have n3_ := ak ((by rw [hg]; exact (below_size bq) : w.heap.size ≤ gb531)); clear HB; have HB := n0_; have BK531 := n1_; have GW531 := n2_; have GE531 := n3_; clear n0_ n1_ n2_ n3_; clear hb hbox hg; have hcz12_0 : w11.cell? ⟨gb531, 0, none⟩ = some (.int .i64 0) := (blk_cell BK531.out 0).trans rfl; have hcz12_1 : w11.cell? ⟨gb531, 1, none⟩ = some (.int .i64 0) := (blk_cell BK531.out 1).trans rfl; have hfz12_0 := blk_frozen BK531.out 0; have hfz12_1 := blk_frozen BK531.out 1) | ((with_reducible refine gate_callee (f := 26) rfl ?_); refine goesL_ (some 19) rfl rfl Tryz.func26 (by kernel_rfl) rfl #[.int .i64 ((rd_T37 l0 x13_1).f0), .int .i64 (-60), .int .i64 60] rfl aq ?_; (with_reducible refine (impl_within.calls ((rd_T37 l0 x13_1).f0) (-60) 60 true _ A7.out).mono ?_); rintro e w' ⟨rfl, ⟨nd, rfl⟩⟩; refine ⟨_, rfl, ?_⟩) | (go_at_call 26; (with_reducible refine (impl_within.calls ((rd_T37 l0 x13_1).f1) (-60) 60 true _ A9.out).mono ?_); rintro e w' ⟨rfl, ⟨nd, rfl⟩⟩))
       go_roundg k1
       case measure => have := HK1.out; omega
       case rel => exact ⟨(wrap64 (x13_1 + 1)), sq, H', ⟨by have := HK1.out; omega⟩, ⟨bs⟩⟩
      ·replace c10 := Bool.eq_false_iff.mpr c10
       subst c10; rw [if_neg (show ¬ (false = true) by decide)] at H; simp only [Option.some.injEq, Prod.mk.injEq] at H; obtain ⟨rfl, rfl⟩ := H; have p530 : 0 ≤ (x13_1 : Int) := dq; have q530 : x13_1 < (l0.length : Int) := dq; obtain ⟨ad530, e530, hx530_0, hx530_1⟩ := at_T37 HR0.out x13_1 p530 q530; cases e530; replace hx530_0 := hb_ HB hx530_0; replace hx530_1 := hb_ HB hx530_1; replace p530 := eq_true p530; replace q530 := eq_true q530
       go_wp2_with (first | ((with_reducible refine gate_dst (N := 5) rfl ?_); refine box_event ?hg (N := 5) ?hd (cs := #[.int .i64 0, .int .i64 0]) (t := 37) ?hr ?_; (case hd => rfl); (case hg => rfl); (case hr => (go_simp; done)); intro gb531 hg w13 hbox hb; have n0_ := ak (below_step bq hb); have n1_ := ak (hbox); have n2_ := ak ((by rw [hg]; exact (below_size bq) : w.heap.size ≤ gb531)); have n3_ := ak ((by rw [hg]; exact (below_size bq) : w.heap.size ≤ gb531)); clear HB; have HB := n0_; have BK531 := n1_; have GW531 := n2_; have GE531 := n3_; clear n0_ n1_ n2_ n3_; clear hb hbox hg; have hcz14_0 : w13.cell? ⟨gb531, 0, none⟩ = some (.int .i64 0) := (blk_cell BK531.out 0).trans rfl; have hcz14_1 : w13.cell? ⟨gb531, 1, none⟩ = some (.int .i64 0) := (blk_cell BK531.out 1).trans rfl; have hfz14_0 := blk_frozen BK531.out 0; have hfz14_1 := blk_frozen BK531.out 1) | ((with_reducible refine gate_callee (f := 26) rfl ?_); refine goesL_ (some 19) rfl rfl Tryz.func26 (by kernel_rfl) rfl #[.int .i64 ((rd_T37 l0 x13_1).f0), .int .i64 (-60), .int .i64 60] rfl aq ?_; (with_reducible refine (impl_within.calls ((rd_T37 l0 x13_1).f0) (-60) 60 true _ A7.out).mono ?_); rintro e w' ⟨rfl, ⟨nd, rfl⟩⟩; refine ⟨_, rfl, ?_⟩) | (go_at_call 26; (with_reducible refine (impl_within.calls ((rd_T37 l0 x13_1).f1) (-60) 60 false _ A9.out).mono ?_); rintro e w' ⟨rfl, ⟨nd, rfl⟩⟩))
       go_ret2
       exact ⟨_, eq_, by first | exact Kd.R_nil _ _ _ _ _ | exact Kd.N_nil _ _ _ _ _ | exact Kd.V_nil _ _ _ _ _ | exact Kd.Q_nil _ _ _ _ _ | exact Kd.S_nil _ _ _ _ _, bs⟩
     ·replace c8 := Bool.eq_false_iff.mpr c8
      subst c8; rw [if_neg (show ¬ (false = true) by decide)] at H; simp only [Option.some.injEq, Prod.mk.injEq] at H; obtain ⟨rfl, rfl⟩ := H; have p530 : 0 ≤ (x13_1 : Int) := dq; have q530 : x13_1 < (l0.length : Int) := dq; obtain ⟨ad530, e530, hx530_0, hx530_1⟩ := at_T37 HR0.out x13_1 p530 q530; cases e530; replace hx530_0 := hb_ HB hx530_0; replace hx530_1 := hb_ HB hx530_1; replace p530 := eq_true p530; replace q530 := eq_true q530
      go_wp2_with (first | ((with_reducible refine gate_dst (N := 5) rfl ?_); refine box_event ?hg (N := 5) ?hd (cs := #[.int .i64 0, .int .i64 0]) (t := 37) ?hr ?_; (case hd => rfl); (case hg => rfl); (case hr => (go_simp; done)); intro gb531 hg w15 hbox hb; have n0_ := ak (below_step bq hb); have n1_ := ak (hbox); have n2_ := ak ((by rw [hg]; exact (below_size bq) : w.heap.size ≤ gb531)); have n3_ := ak ((by rw [hg]; exact (below_size bq) : w.heap.size ≤ gb531)); clear HB; have HB := n0_; have BK531 := n1_; have GW531 := n2_; have GE531 := n3_; clear n0_ n1_ n2_ n3_; clear hb hbox hg; have hcz16_0 : w15.cell? ⟨gb531, 0, none⟩ = some (.int .i64 0) := (blk_cell BK531.out 0).trans rfl; have hcz16_1 : w15.cell? ⟨gb531, 1, none⟩ = some (.int .i64 0) := (blk_cell BK531.out 1).trans rfl; have hfz16_0 := blk_frozen BK531.out 0; have hfz16_1 := blk_frozen BK531.out 1) | ((with_reducible refine gate_callee (f := 26) rfl ?_); refine goesL_ (some 19) rfl rfl Tryz.func26 (by kernel_rfl) rfl #[.int .i64 ((rd_T37 l0 x13_1).f0), .int .i64 (-60), .int .i64 60] rfl aq ?_; (with_reducible refine (impl_within.calls ((rd_T37 l0 x13_1).f0) (-60) 60 false _ A7.out).mono ?_); rintro e w' ⟨rfl, ⟨nd, rfl⟩⟩; refine ⟨_, rfl, ?_⟩))
      go_ret2
      exact ⟨_, eq_, by first | exact Kd.R_nil _ _ _ _ _ | exact Kd.N_nil _ _ _ _ _ | exact Kd.V_nil _ _ _ _ _ | exact Kd.Q_nil _ _ _ _ _ | exact Kd.S_nil _ _ _ _ _, bs⟩
    ·rw [if_neg c4] at H
     have c4b0 := decide_eq_false c4; clear c4; obtain ⟨t534, A170, H⟩ := Option.bind_eq_some_iff.mp H
     have A17 := ak A170; clear A170; obtain ⟨t537, A180, H⟩ := Option.bind_eq_some_iff.mp H
     have A18 := ak A180; clear A180
     by_cases c19 : t537 = true
     ·subst c19
      rw [if_pos rfl] at H; simp only [Option.some.injEq, Prod.mk.injEq] at H; obtain ⟨rfl, rfl⟩ := H
      go_wp2_with (first | ((with_reducible refine gate_callee (f := 50) rfl ?_); refine goesL_ (some 29) rfl rfl Tryz.func50 (by kernel_rfl) rfl #[.slice A0 l0.length c0] rfl aq ?_; (with_reducible refine (impl_put.calls k1 _ _ l0 t534 _ ?side1 ?side2 A17.out).mono ?_); (case side1 => exact cq (Kd.C_below HR0.out HB.out)); (case side2 => exact HC0.out); rintro e w20 ⟨v535, rfl, ho0, hb⟩; refine ⟨_, rfl, ?_⟩; have n0_ := ak (Kd.R_lower ho0 (below_size bq)); have n1_ := ak (below_step bq hb); clear HB; have HO536 := n0_; have HB := n1_; clear n0_ n1_; (try clear hb); (try clear ho0); obtain ⟨Ao21, co21, eo21⟩ := Kd.R_slice HO536.out; subst eo21) | ((with_reducible refine gate_callee (f := 8) rfl ?_); refine goesL_ (some 31) rfl rfl Tryz.func8 (by kernel_rfl) rfl #[.slice Ao21 t534.length co21] rfl aq ?_; (with_reducible refine (impl_IsBody.calls k1 _ _ t534 true _ ?side1 ?side2 A18.out).mono ?_); (case side1 => exact cq (Kd.R_reads' HO536.out).2.2); (case side2 => exact (Kd.R_reads' HO536.out).2.1); rintro e w22 ⟨rfl, hb⟩; refine ⟨_, rfl, ?_⟩; have n0_ := ak (Kd.R_below (rq HO536) hb); have n1_ := ak (below_step bq hb); clear HO536; clear HB; have HO536 := n0_; have HB := n1_; clear n0_ n1_; (try clear hb)))
      go_ret2
      exact ⟨_, eq_, rq HO536, bq⟩
     ·replace c19 := Bool.eq_false_iff.mpr c19
      subst c19; rw [if_neg (show ¬ (false = true) by decide)] at H; simp only [Option.some.injEq, Prod.mk.injEq] at H; obtain ⟨rfl, rfl⟩ := H
      go_wp2_with (first | ((with_reducible refine gate_callee (f := 50) rfl ?_); refine goesL_ (some 29) rfl rfl Tryz.func50 (by kernel_rfl) rfl #[.slice A0 l0.length c0] rfl aq ?_; (with_reducible refine (impl_put.calls k1 _ _ l0 t534 _ ?side1 ?side2 A17.out).mono ?_); (case side1 => exact cq (Kd.C_below HR0.out HB.out)); (case side2 => exact HC0.out); rintro e w23 ⟨v535, rfl, ho0, hb⟩; refine ⟨_, rfl, ?_⟩; have n0_ := ak (Kd.R_lower ho0 (below_size bq)); have n1_ := ak (below_step bq hb); clear HB; have HO536 := n0_; have HB := n1_; clear n0_ n1_; (try clear hb); (try clear ho0); obtain ⟨Ao24, co24, eo24⟩ := Kd.R_slice HO536.out; subst eo24) | ((with_reducible refine gate_callee (f := 8) rfl ?_); refine goesL_ (some 31) rfl rfl Tryz.func8 (by kernel_rfl) rfl #[.slice Ao24 t534.length co24] rfl aq ?_; (with_reducible refine (impl_IsBody.calls k1 _ _ t534 false _ ?side1 ?side2 A18.out).mono ?_); (case side1 => exact cq (Kd.R_reads' HO536.out).2.2); (case side2 => exact (Kd.R_reads' HO536.out).2.1); rintro e w25 ⟨rfl, hb⟩; refine ⟨_, rfl, ?_⟩; have n0_ := ak (Kd.R_below (rq HO536) hb); have n1_ := ak (below_step bq hb); clear HO536; clear HB; have HO536 := n0_; have HB := n1_; clear n0_ n1_; (try clear hb)))
      go_ret2
      exact ⟨_, eq_, by first | exact Kd.R_nil _ _ _ _ _ | exact Kd.N_nil _ _ _ _ _ | exact Kd.V_nil _ _ _ _ _ | exact Kd.Q_nil _ _ _ _ _ | exact Kd.S_nil _ _ _ _ _, bq⟩
 ·replace c3 := Bool.eq_false_iff.mpr c3
  subst c3; rw [if_neg (show ¬ (false = true) by decide)] at H; simp only [Option.some.injEq, Prod.mk.injEq] at H; obtain ⟨rfl, rfl⟩ := H
  go_enter Tryz.func19, Tryz.ntmps19
  go_wp2_with (((with_reducible refine gate_callee (f := 26) rfl ?_); refine goesL_ (some 9) rfl rfl Tryz.func26 (by kernel_rfl) rfl #[.int .i64 (l0.length : Int), .int .i64 1, .int .i64 12] rfl aq ?_; (with_reducible refine (impl_within.calls (l0.length : Int) 1 12 false _ A2.out).mono ?_); rintro e w' ⟨rfl, ⟨nd, rfl⟩⟩; refine ⟨_, rfl, ?_⟩))
  go_ret2
  exact ⟨_, eq_, by first | exact Kd.R_nil _ _ _ _ _ | exact Kd.N_nil _ _ _ _ _ | exact Kd.V_nil _ _ _ _ _ | exact Kd.Q_nil _ _ _ _ _ | exact Kd.S_nil _ _ _ _ _, bq⟩
/-! ### impl_BodySide: function 20 -/
def impl_BodySide.f (k : Nat) (l0 : List (S37)) : Option (Int × Bool) := (impl_IsBody.f k l0).bind fun t538 => (if t538 = true then ((impl_bodySide.f k l0).bind fun t539 => (some (t539, true))) else (some (0, false)))
theorem impl_BodySide.calls (k : Nat) (A0 : Option Addr) (c0 : Nat) (l0 : List (S37)) (r1 : Int) (r2 : Bool) (w : World) (hr0 : Kd.C k37 w A0 l0.length l0) (hc0 : l0.length ≤ c0) (h : impl_BodySide.f k l0 = some (r1, r2)) :
  Calls Tryz.prog 20 #[.slice A0 l0.length c0] w fun e w' => e = .returned (.tuple #[.int .i64 r1, .bool r2]) ∧ Below w.heap.size w w' := by
 have HR0 := ak hr0; have HC0 := ak hc0; clear hr0 hc0; have HB := ak (Below.refl w.heap.size w); have H : ((impl_IsBody.f k l0).bind fun t538 => (if t538 = true then ((impl_bodySide.f k l0).bind fun t539 => (some (t539, true))) else (some (0, false)))) = some (r1, r2) := h; clear h; obtain ⟨t538, A20, H⟩ := Option.bind_eq_some_iff.mp H
 have A2 := ak A20; clear A20
 by_cases c3 : t538 = true
 ·subst c3
  rw [if_pos rfl] at H; obtain ⟨t539, A40, H⟩ := Option.bind_eq_some_iff.mp H
  have A4 := ak A40; clear A40; simp only [Option.some.injEq, Prod.mk.injEq] at H; obtain ⟨rfl, rfl⟩ := H
  go_enter Tryz.func20, Tryz.ntmps20
  go_wp2_with (first | ((with_reducible refine gate_callee (f := 8) rfl ?_); refine goesL_ (some 5) rfl rfl Tryz.func8 (by kernel_rfl) rfl #[.slice A0 l0.length c0] rfl aq ?_; (with_reducible refine (impl_IsBody.calls k _ _ l0 true _ ?side1 ?side2 A2.out).mono ?_); (case side1 => exact cq HR0.out); (case side2 => exact HC0.out); rintro e w5 ⟨rfl, hb⟩; refine ⟨_, rfl, ?_⟩; have n0_ := ak (below_step bq hb); clear HB; have HB := n0_; clear n0_; (try clear hb)) | ((with_reducible refine gate_callee (f := 32) rfl ?_); refine goesL_ (some 8) rfl rfl Tryz.func32 (by kernel_rfl) rfl #[.slice A0 l0.length c0] rfl aq ?_; (with_reducible refine (impl_bodySide.calls k _ _ l0 t539 _ ?side1 ?side2 A4.out).mono ?_); (case side1 => exact cq (Kd.C_below HR0.out HB.out)); (case side2 => exact HC0.out); rintro e w6 ⟨rfl, hb⟩; refine ⟨_, rfl, ?_⟩; have n0_ := ak (below_step bq hb); clear HB; have HB := n0_; clear n0_; (try clear hb)))
  go_ret2
  exact ⟨eq_, bq⟩
 ·replace c3 := Bool.eq_false_iff.mpr c3
  subst c3; rw [if_neg (show ¬ (false = true) by decide)] at H; simp only [Option.some.injEq, Prod.mk.injEq] at H; obtain ⟨rfl, rfl⟩ := H
  go_enter Tryz.func20, Tryz.ntmps20
  go_wp2_with (((with_reducible refine gate_callee (f := 8) rfl ?_); refine goesL_ (some 5) rfl rfl Tryz.func8 (by kernel_rfl) rfl #[.slice A0 l0.length c0] rfl aq ?_; (with_reducible refine (impl_IsBody.calls k _ _ l0 false _ ?side1 ?side2 A2.out).mono ?_); (case side1 => exact cq HR0.out); (case side2 => exact HC0.out); rintro e w7 ⟨rfl, hb⟩; refine ⟨_, rfl, ?_⟩; have n0_ := ak (below_step bq hb); clear HB; have HB := n0_; clear n0_; (try clear hb)))
  go_ret2
  exact ⟨eq_, bq⟩
/-! ### laws_rHas: function 21 -/
def laws_rHas.l0 : Nat → List Int → Int → Int → Option (Bool)
 | 0, _, _, _ => none
 | k + 1, x0, x1, x5 => if x5 < (x0.length : Int) then (if 0 ≤ x5 then (if (rd x0 x5) = x1 then (some true) else (laws_rHas.l0 k x0 x1 (wrap64 (x5 + 1)))) else (none)) else (some false)
def laws_rHas.f (k : Nat) (l0 : List Int) (a1 : Int) : Option (Bool) := laws_rHas.l0 k l0 a1 0
theorem laws_rHas.calls (k : Nat) (A0 : Option Addr) (c0 : Nat) (l0 : List Int) (a1 : Int) (r : Bool) (w : World) (hr0 : Kd.C (Kd.int .i64) w A0 l0.length l0) (hc0 : l0.length ≤ c0) (h : laws_rHas.f k l0 a1 = some r) :
  Calls Tryz.prog 21 #[.slice A0 l0.length c0, .int .i64 a1] w fun e w' => e = .returned (.bool r) ∧ Drawn0 w w' := by
 have HR0 := ak hr0; have HC0 := ak hc0; clear hr0 hc0; have H : (laws_rHas.l0 k l0 a1 0) = some r := h; clear h; have H' := ak H; clear H
 go_enter Tryz.func21, Tryz.ntmps21
 go_wp2
 go_loopg [5] k (fun kq v5 w' => ∃ (x5_1 : Int), v5 = .int .i64 x5_1 ∧ Aside0 (laws_rHas.l0 kq l0 a1 x5_1 = some r) ∧ Aside0 (kq ≤ k) ∧ Drawn0 w w')
 case atStart => exact ⟨(0), sq, H', ⟨Nat.le_refl _⟩, by repeat (exact Drawn0.refl _)⟩
 case round =>
  clear H'; obtain ⟨x5_1, rfl, HA, HK1, ⟨m1, rfl⟩⟩ := hrel
  cases gk with
  | zero => exact absurd HA.out (by simp [laws_rHas.l0])
  | succ k1 =>
   have H := HA.out; clear HA; simp only [laws_rHas.l0] at H
   by_cases c3 : x5_1 < (l0.length : Int)
   ·rw [if_pos c3] at H
    have c3b0 := decide_eq_true c3; clear c3
    revert H; refine ig_ fun c4 H => ?_
    have c4b0 := decide_eq_true c4; clear c4
    by_cases c5 : (rd l0 x5_1) = a1
    ·rw [if_pos c5] at H
     have c5b0 : ((rd l0 x5_1) == a1) = true := beq_iff_eq.mpr c5; have c5b1 : ((rd l0 x5_1) != a1) = false := bne_eq_false_iff_eq.mpr c5; clear c5; obtain rfl := Option.some.inj H; have p540 : 0 ≤ (x5_1 : Int) := dq; have q540 : x5_1 < (l0.length : Int) := dq; obtain ⟨ad540, e540, hx540_0⟩ := Kd.at_int HR0.out x5_1 p540 q540; cases e540; replace p540 := eq_true p540; replace q540 := eq_true q540; go_wp2; go_ret; exact ⟨sq, by repeat (first | exact Drawn0.refl _ | apply Drawn0.step)⟩
    ·rw [if_neg c5] at H
     have c5b0 : ((rd l0 x5_1) == a1) = false := beq_eq_false_iff_ne.mpr c5; have c5b1 : ((rd l0 x5_1) != a1) = true := bne_iff_ne.mpr c5; have H' := ak H; clear H; have p540 : 0 ≤ (x5_1 : Int) := dq; have q540 : x5_1 < (l0.length : Int) := dq; obtain ⟨ad540, e540, hx540_0⟩ := Kd.at_int HR0.out x5_1 p540 q540; cases e540; replace p540 := eq_true p540; replace q540 := eq_true q540; go_wp2; go_roundg k1
     case measure => have := HK1.out; omega
     case rel => exact ⟨(wrap64 (x5_1 + 1)), sq, H', ⟨by have := HK1.out; omega⟩, by repeat (first | exact Drawn0.refl _ | apply Drawn0.step)⟩
   ·rw [if_neg c3] at H
    have c3b0 := decide_eq_false c3; clear c3; obtain rfl := Option.some.inj H; go_wp2; go_ret; exact ⟨sq, by repeat (first | exact Drawn0.refl _ | apply Drawn0.step)⟩
end Go.Proofs.YtckhmeadflafaaaGreat.XFc
