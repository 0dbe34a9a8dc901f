/- Functions of the program as plain Lean functions, each with the proof that the machine's call does what it says: written by a program of this session out of the translation. -/
import Derived.Test.YtckhmeadflafaaaGreatXFcx0
import Derived.Test.YtckhmeadflafaaaGreatXFcx1
namespace Go.Proofs.YtckhmeadflafaaaGreat.XFc
open Go.RowKit Go.Proofs.YtckhmeadflafaaaGreatW.PrintWords Go.Proofs.YtckhmeadflafaaaGreatW.PrintLast Go.Proofs.YtckhmeadflafaaaGreatW.PrintMore
attribute [local go_sem] max2_int min2_int max_two min_two max_three min_three max_four min_four   -- for this text's walks alone
set_option linter.unusedVariables false
set_option linter.unusedSimpArgs false
set_option maxHeartbeats 8000000
set_option maxRecDepth 100000
/-! ### spec_l8Down: function 39 -/
mutual
def spec_l8Down.l0 : Nat → List (S37) → List (S37) → Int → Int → Int → Option ((List (S37)))
 | 0, _, _, _, _, _ => none
 | k + 1, x0, x3, x4, x5, x6 => if x6 < (x0.length : Int) then (if 0 ≤ x6 then ((spec_l1Least.f x4 ((rd_T37 x0 x6).f0)).bind fun t183 => ((spec_l1Least.f x5 ((rd_T37 x0 x6).f1)).bind fun t185 => (spec_l8Down.l0 k x0 x3 t183 t185 (wrap64 (x6 + 1))))) else (none)) else (spec_l8Down.l1 k x0 x3 x4 x5 0)
def spec_l8Down.l1 : Nat → List (S37) → List (S37) → Int → Int → Int → Option ((List (S37)))
 | 0, _, _, _, _, _ => none
 | k + 1, x0, x3, x4, x5, x7 => if x7 < (x0.length : Int) then (if 0 ≤ x7 then ((spec_l8Put.f k x3 (wrap64 (((rd_T37 x0 x7).f0) - x4)) (wrap64 (((rd_T37 x0 x7).f1) - x5))).bind fun t188 => (spec_l8Down.l1 k x0 t188 x4 x5 (wrap64 (x7 + 1)))) else (none)) else (some x3)
end
def spec_l8Down.f (k : Nat) (l0 : List (S37)) : Option ((List (S37))) := if 0 < (l0.length : Int) then (spec_l8Down.l0 k l0 (([] : List (S37))) ((rd_T37 l0 0).f0) ((rd_T37 l0 0).f1) 0) else (none)
def spec_l8Down.T1 : Bool × List (List Nat × List Nat) := (true, [([], []), ([], []), ([1], [1]), ([2], [2]), ([3], [3]), ([], []), ([5], [5]), ([6], [6]), ([7], [7]), ([0, 0], [0]), ([4, 9, 0, 1, 2, 3, 4, 9], [4]), ([8, 10, 0, 1, 2, 3, 4, 5, 6, 7, 8, 9, 10], [8])])
def spec_l8Down.B1 : List Nat := [0, 0, 2, 6, 14, 0, 32, 96, 224, 1, 543, 2047]
theorem spec_l8Down.tab1 : rtab .any (opsOf Tryz.f39 1) = spec_l8Down.T1 := by kernel_rfl
theorem spec_l8Down.bits1 : waitsOk spec_l8Down.T1.2 spec_l8Down.B1 = true := by kernel_rfl
def spec_l8Down.T10 : Bool × List (List Nat × List Nat) := (true, [([], []), ([], []), ([], []), ([1, 2], [1, 2]), ([3], [3]), ([4], [4]), ([], []), ([5, 6], [5, 6]), ([], []), ([], []), ([8, 9], [8, 9]), ([10], [10]), ([11], [11]), ([], []), ([12, 13], [12, 13]), ([7, 14], [7, 14]), ([0, 15], [0, 15]), ([16, 16, 0, 1, 2, 3, 4, 5, 6, 7, 8, 9, 10, 11, 12, 13, 14, 15, 16], [0, 16])])
def spec_l8Down.B10 : List Nat := [0, 0, 0, 6, 14, 30, 0, 126, 0, 0, 768, 1792, 3840, 0, 16128, 32766, 65535, 131071]
theorem spec_l8Down.tab10 : rtab .any (opsOf Tryz.f39 10) = spec_l8Down.T10 := by kernel_rfl
theorem spec_l8Down.bits10 : waitsOk spec_l8Down.T10.2 spec_l8Down.B10 = true := by kernel_rfl
theorem spec_l8Down.calls (k : Nat) (A0 : Option Addr) (c0 : Nat) (l0 : List (S37)) (r : List (S37)) (w : World) (hr0 : Kd.C k37 w A0 l0.length l0) (hc0 : l0.length ≤ c0) (h : spec_l8Down.f k l0 = some r) :
  Calls Tryz.prog 39 #[.slice A0 l0.length c0] w fun e w' => ∃ v0_ : Value, e = .returned (v0_) ∧ Kd.R k37 37 w' w.heap.size (fun _ => True) v0_ r ∧ Below w.heap.size w w' := by
 have hu37 := Tryz.underlying37; have HR0 := ak hr0; have HC0 := ak hc0; clear hr0 hc0; have HB := ak (Below.refl w.heap.size w); have H : (if 0 < (l0.length : Int) then (spec_l8Down.l0 k l0 (([] : List (S37))) ((rd_T37 l0 0).f0) ((rd_T37 l0 0).f1) 0) else (none)) = some r := h; clear h; obtain ⟨y177, hy177⟩ : ∃ y_ : List (S37), y_ = (([] : List (S37))) := ⟨_, rfl⟩
 replace H : (if 0 < (l0.length : Int) then (spec_l8Down.l0 k l0 y177 ((rd_T37 l0 0).f0) ((rd_T37 l0 0).f1) 0) else (none)) = some r := by first | (rw [hy177]; with_reducible exact H) | (have H2_ := (Option.bind_some _ _).symm.trans H; rw [hy177]; with_reducible exact H2_) | (have H2_ := (Option.bind_some _ _).symm.trans H; with_reducible exact H2_) | with_reducible exact H | (rw [hy177]; exact H) | exact H
 have Ny177 := ak hy177; clear hy177
 revert H; refine ig_ fun c2 H => ?_
 have c2b0 := decide_eq_true c2; have c2b1 : decide (0 < l0.length) = true := decide_eq_true (by omega); clear c2; have H' := ak H; clear H
 go_enter Tryz.func39, Tryz.ntmps39
 (try go_wp2); have n0_ := ak (below_drew1 HB.out); clear HB; have HB := n0_; clear n0_; have p180 : 0 ≤ (0 : Int) := (by omega); have q180 : 0 < (l0.length : Int) := dq; obtain ⟨ad180, e180, hx180_0, hx180_1⟩ := at_T37 HR0.out 0 p180 q180; have hw180_1 := hx180_1
 (try rw [show ((0 : Int)).toNat = 0 from rfl] at hw180_1)
 (try rw [show 0 * 2 = 0 from rfl] at hw180_1)
 (try rw [Addr.add_zero'] at hw180_1)
 have hw180_0 := hx180_0
 (try rw [show ((0 : Int)).toNat = 0 from rfl] at hw180_0)
 (try rw [show 0 * 2 = 0 from rfl] at hw180_0)
 (try rw [Addr.add_zero'] at hw180_0)
 cases e180; have qi180 : (0 < l0.length) = True := eq_true (by omega)
 (try rw [show ((0 : Int)).toNat = 0 from rfl] at hx180_0)
 (try rw [show 0 * 2 = 0 from rfl] at hx180_0)
 (try rw [Addr.add_zero'] at hx180_0)
 (try rw [show ((0 : Int)).toNat = 0 from rfl] at hx180_1)
 (try rw [show 0 * 2 = 0 from rfl] at hx180_1)
 (try rw [Addr.add_zero'] at hx180_1)
 replace hx180_0 := hb_ HB hx180_0; replace hx180_1 := hb_ HB hx180_1; replace p180 := eq_true p180; replace q180 := eq_true q180; have p181 : 0 ≤ (0 : Int) := (by omega); have q181 : 0 < (l0.length : Int) := dq; obtain ⟨ad181, e181, hx181_0, hx181_1⟩ := at_T37 HR0.out 0 p181 q181; have hw181_1 := hx181_1
 (try rw [show ((0 : Int)).toNat = 0 from rfl] at hw181_1)
 (try rw [show 0 * 2 = 0 from rfl] at hw181_1)
 (try rw [Addr.add_zero'] at hw181_1)
 have hw181_0 := hx181_0
 (try rw [show ((0 : Int)).toNat = 0 from rfl] at hw181_0)
 (try rw [show 0 * 2 = 0 from rfl] at hw181_0)
 (try rw [Addr.add_zero'] at hw181_0)
 obtain rfl : ad180 = ad181 := (by injection e181); have qi181 : (0 < l0.length) = True := eq_true (by omega)
 (try rw [show ((0 : Int)).toNat = 0 from rfl] at hx181_0)
 (try rw [show 0 * 2 = 0 from rfl] at hx181_0)
 (try rw [Addr.add_zero'] at hx181_0)
 (try rw [show ((0 : Int)).toNat = 0 from rfl] at hx181_1)
 (try rw [show 0 * 2 = 0 from rfl] at hx181_1)
 (try rw [Addr.add_zero'] at hx181_1)
 replace hx181_0 := hb_ HB hx181_0; replace hx181_1 := hb_ HB hx181_1; replace p181 := eq_true p181; replace q181 := eq_true q181; refine start_ (n := 12) (S := fun w' => w'.cell? ad180 = some (.int .i64 ((rd_T37 l0 0).f0)) ∧ w'.cell? ⟨ad180.block, ad180.off + 1, none⟩ = some (.int .i64 ((rd_T37 l0 0).f1)) ∧ w'.cell? ad180 = some (.int .i64 ((rd_T37 l0 0).f0)) ∧ w'.cell? ⟨ad180.block, ad180.off + 1, none⟩ = some (.int .i64 ((rd_T37 l0 0).f1))) (ds := []) #[Z,Z,Z,Z,Z,Z,Z,Z,Z,Z,Z,Z] (by kernel_rfl) rfl rfl ⟨((hb_ HB hw180_0).trans rfl), ((hb_ HB hw180_1).trans rfl), ((hb_ HB hw181_0).trans rfl), ((hb_ HB hw181_1).trans rfl)⟩ (fun hHeld => ?_); refine with_tabW spec_l8Down.tab1 spec_l8Down.bits1 (fun HT_ HW_ => ?_)
 generalize w.drew = w3 at HB hx180_0 hx180_1 hx181_0 hx181_1 hHeld ⊢
 refine pq_ (i := 1) (N := some 9) #[Z,Y,Z,Z,Z,Z,Z,Z,Z,Z,Z,Z] HT_ ?_; refine pq_ (i := 2) (N := some 10) #[Z,Y,Y,Z,Z,Z,Z,Z,Z,Z,Z,Z] HT_ ?_; refine pq_ (i := 3) (N := some 11) #[Z,Y,Y,Y,Z,Z,Z,Z,Z,Z,Z,Z] HT_ ?_; refine pq_ (i := 5) (N := some 13) #[Z,Y,Y,Y,Z,Y,Z,Z,Z,Z,Z,Z] HT_ ?_; refine pq_ (i := 6) (N := some 14) #[Z,Y,Y,Y,Z,Y,Y,Z,Z,Z,Z,Z] HT_ ?_; refine pq_ (i := 7) (N := some 15) #[Z,Y,Y,Y,Z,Y,Y,Y,Z,Z,Z,Z] HT_ ?_; refine tk_ (i := 4) (N := some 12) #[Z,Y,Y,Y,Y,Y,Y,Y,Z,Z,Z,Z] HT_ HW_ hHeld ?_; refine tk_ (i := 8) (N := some 16) #[Z,Y,Y,Y,Y,Y,Y,Y,Y,Z,Z,Z] HT_ HW_ hHeld ?_; refine one_ (i := 0) (N := some 8) #[Y,Y,Y,Y,Y,Y,Y,Y,Y,Z,Z,Z] rfl rfl (one_of HT_.out (by kernel_rfl)) (by decide) (fun K hK => ?_); refine Kd.R_lit_step k37 _ 37 ?hg (N := 8) ?hd (xs := ([] : List (S37))) (inner := []) (ok := fun _ => True) (okp := fun _ => True) ?hr ?hp (fun _ hk => hk) trivial (Below.refl _ _) (Nat.le_refl _) (by simp) ?_; (case hd => rfl); (case hg => rfl); (case hr => (go_simp; done)); (case hp => exact (Reps.none _ _)); intro v178 w4 ho5 hb hg_ hnew_; clear hg_ hnew_
 (rw [← Ny177.out] at ho5)
 have n0_ := ak (Kd.R_lower ho5 (below_size bq)); have n1_ := ak (below_step bq hb); clear HB; have HO179 := n0_; have HB := n1_; clear n0_ n1_; clear hb ho5; refine hK.out _ _ ⟨((hb_ HB hw180_0).trans rfl), ((hb_ HB hw180_1).trans rfl), ((hb_ HB hw181_0).trans rfl), ((hb_ HB hw181_1).trans rfl)⟩ (fun hHeld => ?_); clear hK K; refine norm_ (a' := ?_) ?_ ?_; rotate_left
 ·show Act.put _ (some 8) _ = _
  simp only [Act.put, sA, sZ, sS, i64_w, i32_w]
  rfl
 refine pq_ (i := 9) (N := some 3) #[Y,Y,Y,Y,Y,Y,Y,Y,Y,Y,Z,Z] HT_ ?_; refine pq_ (i := 10) (N := some 4) #[Y,Y,Y,Y,Y,Y,Y,Y,Y,Y,Y,Z] HT_ ?_; refine pq_ (i := 11) (N := some 5) #[Y,Y,Y,Y,Y,Y,Y,Y,Y,Y,Y,Y] HT_ ?_; refine done_ (done_of HT_.out (by kernel_rfl)) ?_; (try go_wp2)
 go_loopg [4, 5, 6] k (fun kq v4 v5 v6 w' => ∃ (x4_1 : Int) (x5_1 : Int) (x6_1 : Int), v4 = .int .i64 x4_1 ∧ v5 = .int .i64 x5_1 ∧ v6 = .int .i64 x6_1 ∧ Aside0 (spec_l8Down.l0 kq l0 y177 x4_1 x5_1 x6_1 = some r) ∧ Aside0 (kq ≤ k) ∧ Aside0 (Kd.R k37 37 w' w.heap.size (fun _ => True) v178 y177) ∧ Aside0 (Below w.heap.size w w'))
 case atStart => exact ⟨((rd_T37 l0 0).f0), ((rd_T37 l0 0).f1), (0), sq, sq, sq, H', ⟨Nat.le_refl _⟩, ⟨rq HO179⟩, ⟨bq⟩⟩
 case round =>
  clear H'; (try clear c2b0); (try clear c2b1); (try clear hx180_0); (try clear hx180_1); (try clear hx181_0); (try clear hx181_1); (try clear p180); (try clear p181); (try clear q180); (try clear q181); obtain ⟨x4_1, x5_1, x6_1, rfl, rfl, rfl, HA, HK1, HO_3, HB⟩ := hrel
  cases gk with
  | zero => exact absurd HA.out (by simp [spec_l8Down.l0])
  | succ k1 =>
   have H := HA.out; clear HA; simp only [spec_l8Down.l0] at H
   by_cases c6 : x6_1 < (l0.length : Int)
   ·rw [if_pos c6] at H
    have c6b0 := decide_eq_true c6; clear c6
    revert H; refine ig_ fun c7 H => ?_
    have c7b0 := decide_eq_true c7; clear c7; obtain ⟨t183, A80, H⟩ := Option.bind_eq_some_iff.mp H
    have A8 := ak A80; clear A80; obtain ⟨t185, A90, H⟩ := Option.bind_eq_some_iff.mp H
    have A9 := ak A90; clear A90; have H' := ak H; clear H; have p182 : 0 ≤ (x6_1 : Int) := dq; have q182 : x6_1 < (l0.length : Int) := dq; obtain ⟨ad182, e182, hx182_0, hx182_1⟩ := at_T37 HR0.out x6_1 p182 q182; obtain rfl : ad180 = ad182 := (by injection e182); replace hx182_0 := hb_ HB hx182_0; replace hx182_1 := hb_ HB hx182_1; replace p182 := eq_true p182; replace q182 := eq_true q182
    go_wp2_with (first | ((with_reducible refine gate_callee (f := 55) rfl ?_); refine goesL_ (some 29) rfl rfl Tryz.func55 (by kernel_rfl) rfl #[.int .i64 x4_1, .int .i64 ((rd_T37 l0 x6_1).f0)] rfl aq ?_; (with_reducible refine (spec_l1Least.calls x4_1 ((rd_T37 l0 x6_1).f0) t183 _ A8.out).mono ?_); rintro e w' ⟨rfl, ⟨nd, rfl⟩⟩; refine ⟨_, rfl, ?_⟩; have p184 : 0 ≤ (x6_1 : Int) := dq; have q184 : x6_1 < (l0.length : Int) := dq; obtain ⟨ad184, e184, hx184_0, hx184_1⟩ := at_T37 HR0.out x6_1 p184 q184; obtain rfl : ad180 = ad184 := (by injection e184); replace hx184_0 := hb_ HB hx184_0; replace hx184_1 := hb_ HB hx184_1; replace p184 := eq_true p184; replace q184 := eq_true q184) | ((with_reducible refine gate_callee (f := 55) rfl ?_); refine goesL_ (some 36) rfl rfl Tryz.func55 (by kernel_rfl) rfl #[.int .i64 x5_1, .int .i64 ((rd_T37 l0 x6_1).f1)] rfl aq ?_; (with_reducible refine (spec_l1Least.calls x5_1 ((rd_T37 l0 x6_1).f1) t185 _ A9.out).mono ?_); rintro e w' ⟨rfl, ⟨nd, rfl⟩⟩; refine ⟨_, rfl, ?_⟩))
    go_roundg k1
    case measure => have := HK1.out; omega
    case rel => exact ⟨(t183), (t185), (wrap64 (x6_1 + 1)), sq, sq, sq, H', ⟨by have := HK1.out; omega⟩, ⟨rq HO_3⟩, ⟨bq⟩⟩
   ·rw [if_neg c6] at H
    have c6b0 := decide_eq_false c6; clear c6; have H' := ak H; clear H; go_wp2
    go_loopg [3, 7] k1 (fun kq v3 v7 w' => ∃ (x3_2 : List (S37)) (x7_2 : Int), v7 = .int .i64 x7_2 ∧ Aside0 (spec_l8Down.l1 kq l0 x3_2 x4_1 x5_1 x7_2 = some r) ∧ Aside0 (kq ≤ k1) ∧ Aside0 (Kd.R k37 37 w' w.heap.size (fun _ => True) v3 x3_2) ∧ Aside0 (Below w.heap.size w w'))
    case atStart => exact ⟨(y177), (0), sq, H', ⟨Nat.le_refl _⟩, ⟨rq HO_3⟩, ⟨bq⟩⟩
    case round =>
     clear H'; (try clear c6b0); obtain ⟨x3_2, x7_2, rfl, HA, HK2, HO_3, HB⟩ := hrel
     cases gk with
     | zero => exact absurd HA.out (by simp [spec_l8Down.l1])
     | succ k2 =>
      have H := HA.out; clear HA; simp only [spec_l8Down.l1] at H
      by_cases c10 : x7_2 < (l0.length : Int)
      ·rw [if_pos c10] at H
       have c10b0 := decide_eq_true c10; clear c10
       revert H; refine ig_ fun c11 H => ?_
       have c11b0 := decide_eq_true c11; clear c11; obtain ⟨t188, A120, H⟩ := Option.bind_eq_some_iff.mp H
       have A12 := ak A120; clear A120; have H' := ak H; clear H; (try go_wp2); have n0_ := ak (Kd.R_drew HO_3.out); have n1_ := ak (below_drew1 HB.out); clear HO_3; clear HB; have HO_3 := n0_; have HB := n1_; clear n0_ n1_; have p186 : 0 ≤ (x7_2 : Int) := dq; have q186 : x7_2 < (l0.length : Int) := dq; obtain ⟨ad186, e186, hx186_0, hx186_1⟩ := at_T37 HR0.out x7_2 p186 q186; have hw186_1 := hx186_1; have hw186_0 := hx186_0; obtain rfl : ad180 = ad186 := (by injection e186); replace hx186_0 := hb_ HB hx186_0; replace hx186_1 := hb_ HB hx186_1; replace p186 := eq_true p186; replace q186 := eq_true q186; have p187 : 0 ≤ (x7_2 : Int) := dq; have q187 : x7_2 < (l0.length : Int) := dq; obtain ⟨ad187, e187, hx187_0, hx187_1⟩ := at_T37 HR0.out x7_2 p187 q187; have hw187_1 := hx187_1; have hw187_0 := hx187_0; obtain rfl : ad180 = ad187 := (by injection e187); replace hx187_0 := hb_ HB hx187_0; replace hx187_1 := hb_ HB hx187_1; replace p187 := eq_true p187; replace q187 := eq_true q187; obtain ⟨Ao14, co14, eo14⟩ := Kd.R_slice HO_3.out
       (subst eo14)
       refine start_ (n := 18) (S := fun w' => w'.cell? (ad180.add ((x7_2).toNat * 2)) = some (.int .i64 ((rd_T37 l0 x7_2).f0)) ∧ w'.cell? ⟨(ad180.add ((x7_2).toNat * 2)).block, (ad180.add ((x7_2).toNat * 2)).off + 1, none⟩ = some (.int .i64 ((rd_T37 l0 x7_2).f1)) ∧ w'.cell? (ad180.add ((x7_2).toNat * 2)) = some (.int .i64 ((rd_T37 l0 x7_2).f0)) ∧ w'.cell? ⟨(ad180.add ((x7_2).toNat * 2)).block, (ad180.add ((x7_2).toNat * 2)).off + 1, none⟩ = some (.int .i64 ((rd_T37 l0 x7_2).f1))) (ds := []) #[Z,Z,Z,Z,Z,Z,Z,Z,Z,Z,Z,Z,Z,Z,Z,Z,Z,Z] (by kernel_rfl) rfl rfl ⟨((hb_ HB hw186_0).trans rfl), ((hb_ HB hw186_1).trans rfl), ((hb_ HB hw187_0).trans rfl), ((hb_ HB hw187_1).trans rfl)⟩ (fun hHeld => ?_); refine with_tabW spec_l8Down.tab10 spec_l8Down.bits10 (fun HT_ HW_ => ?_)
       generalize wr.drew = w13 at HO_3 HB hx186_0 hx186_1 hx187_0 hx187_1 hHeld ⊢
       refine pq_ (i := 0) (N := some 43) #[Y,Z,Z,Z,Z,Z,Z,Z,Z,Z,Z,Z,Z,Z,Z,Z,Z,Z] HT_ ?_; refine pq_ (i := 1) (N := some 44) #[Y,Y,Z,Z,Z,Z,Z,Z,Z,Z,Z,Z,Z,Z,Z,Z,Z,Z] HT_ ?_; refine pq_ (i := 2) (N := some 45) #[Y,Y,Y,Z,Z,Z,Z,Z,Z,Z,Z,Z,Z,Z,Z,Z,Z,Z] HT_ ?_; refine pq_ (i := 3) (N := some 46) #[Y,Y,Y,Y,Z,Z,Z,Z,Z,Z,Z,Z,Z,Z,Z,Z,Z,Z] HT_ ?_; refine pq_ (i := 4) (N := some 47) #[Y,Y,Y,Y,Y,Z,Z,Z,Z,Z,Z,Z,Z,Z,Z,Z,Z,Z] HT_ ?_; refine pq_ (i := 6) (N := some 49) #[Y,Y,Y,Y,Y,Z,Y,Z,Z,Z,Z,Z,Z,Z,Z,Z,Z,Z] HT_ ?_; refine pq_ (i := 8) (N := some 51) #[Y,Y,Y,Y,Y,Z,Y,Z,Y,Z,Z,Z,Z,Z,Z,Z,Z,Z] HT_ ?_; refine pq_ (i := 9) (N := some 52) #[Y,Y,Y,Y,Y,Z,Y,Z,Y,Y,Z,Z,Z,Z,Z,Z,Z,Z] HT_ ?_; refine pq_ (i := 10) (N := some 53) #[Y,Y,Y,Y,Y,Z,Y,Z,Y,Y,Y,Z,Z,Z,Z,Z,Z,Z] HT_ ?_; refine pq_ (i := 11) (N := some 54) #[Y,Y,Y,Y,Y,Z,Y,Z,Y,Y,Y,Y,Z,Z,Z,Z,Z,Z] HT_ ?_; refine pq_ (i := 13) (N := some 56) #[Y,Y,Y,Y,Y,Z,Y,Z,Y,Y,Y,Y,Z,Y,Z,Z,Z,Z] HT_ ?_; refine tk_ (i := 5) (N := some 48) #[Y,Y,Y,Y,Y,Y,Y,Z,Y,Y,Y,Y,Z,Y,Z,Z,Z,Z] HT_ HW_ hHeld ?_; refine pq_ (i := 7) (N := some 50) #[Y,Y,Y,Y,Y,Y,Y,Y,Y,Y,Y,Y,Z,Y,Z,Z,Z,Z] HT_ ?_; refine tk_ (i := 12) (N := some 55) #[Y,Y,Y,Y,Y,Y,Y,Y,Y,Y,Y,Y,Y,Y,Z,Z,Z,Z] HT_ HW_ hHeld ?_; refine pq_ (i := 14) (N := some 57) #[Y,Y,Y,Y,Y,Y,Y,Y,Y,Y,Y,Y,Y,Y,Y,Z,Z,Z] HT_ ?_; refine pq_ (i := 15) (N := some 58) #[Y,Y,Y,Y,Y,Y,Y,Y,Y,Y,Y,Y,Y,Y,Y,Y,Z,Z] HT_ ?_; refine one_ (i := 16) (N := some 59) #[Y,Y,Y,Y,Y,Y,Y,Y,Y,Y,Y,Y,Y,Y,Y,Y,Y,Z] rfl rfl (one_of HT_.out (by kernel_rfl)) (by decide) (fun K hK => ?_); refine goes_ Tryz.func40 (by kernel_rfl) rfl #[.slice Ao14 x3_2.length co14, .agg #[.int .i64 (wrap64 (((rd_T37 l0 x7_2).f0) - x4_1)), .int .i64 (wrap64 (((rd_T37 l0 x7_2).f1) - x5_1))]] (by rfl) rfl rfl aq ?_
       with_reducible refine (spec_l8Put.calls k2 _ _ x3_2 (wrap64 (((rd_T37 l0 x7_2).f0) - x4_1)) (wrap64 (((rd_T37 l0 x7_2).f1) - x5_1)) t188 _ ?side1 ?side2 A12.out).mono ?_
       (case side1 => exact cq (Kd.R_reads' HO_3.out).2.2)
       (case side2 => exact (Kd.R_reads' HO_3.out).2.1)
       rintro e w15 ⟨v189, rfl, ho0, hb⟩
       refine ⟨_, rfl, ?_⟩; have n0_ := ak (Kd.R_elder' (rq HO_3) (Kd.R_base ho0) hb); have n1_ := ak (Kd.R_lower (Kd.R_new' ho0 (Kd.R_lt (rq HO_3))) (below_size bq)); have n2_ := ak (below_step bq hb); clear HO_3; clear HB; have HO_3 := n0_; have HO190 := n1_; have HB := n2_; clear n0_ n1_ n2_
       (try clear hb)
       (try clear ho0)
       refine hK.out _ _ ⟨((hb_ HB hw186_0).trans rfl), ((hb_ HB hw186_1).trans rfl), ((hb_ HB hw187_0).trans rfl), ((hb_ HB hw187_1).trans rfl)⟩ (fun hHeld => ?_); clear hK K; refine norm_ (a' := ?_) ?_ ?_; rotate_left
       ·show Act.put _ (some 59) _ = _
        simp only [Act.put, sA, sZ, sS, i64_w, i32_w]
        rfl
       refine pq_ (i := 17) (N := some 3) #[Y,Y,Y,Y,Y,Y,Y,Y,Y,Y,Y,Y,Y,Y,Y,Y,Y,Y] HT_ ?_; refine done_ (done_of HT_.out (by kernel_rfl)) ?_; (try go_wp2); go_roundg k2
       case measure => have := HK1.out; have := HK2.out; omega
       case rel => exact ⟨(t188), (wrap64 (x7_2 + 1)), sq, H', ⟨by have := HK1.out; have := HK2.out; omega⟩, ⟨by exact Kd.R_mono HO190.out (fun _ hk => trivial)⟩, ⟨bq⟩⟩
      ·rw [if_neg c10] at H
       have c10b0 := decide_eq_false c10; clear c10; obtain rfl := Option.some.inj H; go_wp2; go_ret; exact ⟨_, eq_, rq HO_3, bq⟩
/-! ### spec_l1Cur_body: function 51 -/
mutual
def spec_l1Cur_body.l0 : Nat → List (S37) → Int → List Int → Int → Int → Option ((List (S37)) × Int × Int)
 | 0, _, _, _, _, _ => none
 | k + 1, x5, x6, x1000, x1001, x1002 => if (x5.length : Int) < x6 then ((spec_l8Edge.f k x5).bind fun t201 => ((spec_l1Cur_pick.f x1000 x1001 x1002 (t201.length : Int)).bind fun bt204 => (if 0 ≤ bt204.1 then (if bt204.1 < (t201.length : Int) then ((spec_l8Put.f k x5 ((rd_T37 t201 bt204.1).f0) ((rd_T37 t201 bt204.1).f1)).bind fun t208 => ((spec_l8Down.f k t208).bind fun t211 => (spec_l1Cur_body.l0 k t211 x6 x1000 bt204.2.1 bt204.2.2))) else (none)) else (none)))) else ((spec_l1Cur_pick.f x1000 x1001 x1002 50).bind fun bt214 => (if bt214.1 = 0 then ((spec_l1Cur_pick.f x1000 bt214.2.1 bt214.2.2 (x5.length : Int)).bind fun bt217 => ((spec_l1Cur_among.f x1000 bt217.2.1 bt217.2.2 (([(-1), 12, 4611686018427387904] : List Int))).bind fun bt223 => (if 0 ≤ bt217.1 then (if bt217.1 < (x5.length : Int) then (some ((x5.set (bt217.1 : Int).toNat (⟨bt223.1, 0⟩ : S37)), bt223.2.1, bt223.2.2)) else (none)) else (none)))) else (if bt214.1 = 1 then (if 0 ≤ (wrap64 ((x5.length : Int) - 1)) then (if (wrap64 ((x5.length : Int) - 1)) < (x5.length : Int) then (if x5.length < 8796093022208 then (some ((x5 ++ [(⟨(rd_T37 x5 (wrap64 ((x5.length : Int) - 1))).f0, wrap64 (((rd_T37 x5 (wrap64 ((x5.length : Int) - 1))).f1) + 2)⟩ : S37)]), bt214.2.1, bt214.2.2)) else (none)) else (none)) else (none)) else (if bt214.1 = 2 then (if 0 < (x5.length : Int) then (if x5.length < 8796093022208 then (some ((x5 ++ [(⟨(rd_T37 x5 0).f0, (rd_T37 x5 0).f1⟩ : S37)]), bt214.2.1, bt214.2.2)) else (none)) else (none)) else (if bt214.1 = 3 then (some ((([] : List (S37))), bt214.2.1, bt214.2.2)) else (if bt214.1 = 4 then (spec_l1Cur_body.l1 k x5 0 x1000 bt214.2.1 bt214.2.2) else (some (x5, bt214.2.1, bt214.2.2))))))))
def spec_l1Cur_body.l1 : Nat → List (S37) → Int → List Int → Int → Int → Option ((List (S37)) × Int × Int)
 | 0, _, _, _, _, _ => none
 | k + 1, x5, x8, x1000, x1001, x1002 => if x8 < (x5.length : Int) then (if 0 ≤ x8 then (spec_l1Cur_body.l1 k (x5.set (x8 : Int).toNat (⟨(rd_T37 x5 x8).f0, wrap64 (((rd_T37 x5 x8).f1) + 1)⟩ : S37)) (wrap64 (x8 + 1)) x1000 x1001 x1002) else (none)) else (some (x5, x1001, x1002))
end
def spec_l1Cur_body.f (k : Nat) (s0_0 : List Int) (s0_1 : Int) (s0_2 : Int) (a1 : Int) : Option ((List (S37)) × Int × Int) := (spec_l1Cur_among.f s0_0 s0_1 s0_2 (([4, 5, 3, 2, 1, 7, 9, 12] : List Int))).bind fun bt197 => ((spec_l1Least.f bt197.1 a1).bind fun t200 => (spec_l1Cur_body.l0 k (([(⟨0, 0⟩ : S37)] : List (S37))) t200 s0_0 bt197.2.1 bt197.2.2))
def spec_l1Cur_body.T10 : Bool × List (List Nat × List Nat) := (true, [([], []), ([], []), ([], []), ([2], [2]), ([3], [3]), ([1, 4], [1, 4]), ([5], [5]), ([6], [6]), ([], []), ([], []), ([9], [9]), ([10], [10]), ([8, 11], [8, 11]), ([12], [12]), ([13], [13]), ([14], [14]), ([7, 15], [7, 15]), ([16], [16]), ([0, 17], [0, 17]), ([18, 18, 0, 1, 2, 3, 4, 5, 6, 7, 8, 9, 10, 11, 12, 13, 14, 15, 16, 17, 18], [0, 1, 2, 8, 9, 18])])
def spec_l1Cur_body.B10 : List Nat := [0, 0, 0, 4, 12, 30, 62, 126, 0, 0, 512, 1536, 3840, 7936, 16128, 32512, 65534, 131070, 262143, 524287]
theorem spec_l1Cur_body.tab10 : rtab .any (opsOf Tryz.f51 10) = spec_l1Cur_body.T10 := by kernel_rfl
theorem spec_l1Cur_body.bits10 : waitsOk spec_l1Cur_body.T10.2 spec_l1Cur_body.B10 = true := by kernel_rfl
def spec_l1Cur_body.T19 : Bool × List (List Nat × List Nat) := (true, [([], []), ([], []), ([], []), ([], []), ([2, 3], [2, 3]), ([4], [4]), ([5], [5]), ([], []), ([], []), ([7, 8], [7, 8]), ([9], [9]), ([10], [10]), ([11], [11]), ([6, 12], [6, 12]), ([0, 1, 0, 1, 2, 3, 4, 5, 6, 7, 8, 9, 10, 11, 12, 13], [0, 1]), ([14, 13, 0, 1, 2, 3, 4, 5, 6, 7, 8, 9, 10, 11, 12, 13], [13, 14])])
def spec_l1Cur_body.B19 : List Nat := [0, 0, 0, 0, 12, 28, 60, 0, 0, 384, 896, 1920, 3968, 8188, 16383, 32767]
theorem spec_l1Cur_body.tab19 : rtab .any (opsOf Tryz.f51 19) = spec_l1Cur_body.T19 := by kernel_rfl
theorem spec_l1Cur_body.bits19 : waitsOk spec_l1Cur_body.T19.2 spec_l1Cur_body.B19 = true := by kernel_rfl
theorem spec_l1Cur_body.calls (k : Nat) (g : Nat) (s0_0 : List Int) (s0_1 : Int) (s0_2 : Int) (a1 : Int) (r1 : List (S37)) (r2 : Int) (r3 : Int) (w0 w : World) (hI : IsS56 w0 w g s0_0 s0_1 s0_2) (hB : Below w0.heap.size w0 w) (h : spec_l1Cur_body.f k s0_0 s0_1 s0_2 a1 = some (r1, r2, r3)) :
  Calls Tryz.prog 51 #[.pointer (some ⟨g, 0, none⟩), .int .i64 a1] w fun e w' => ∃ v0_ : Value, e = .returned (v0_) ∧ Kd.R k37 37 w' w.heap.size (fun _ => True) v0_ r1 ∧ IsS56 w0 w' g s0_0 r2 r3 ∧ Below w0.heap.size w0 w' ∧ KeepBut w w' g none := by
 have hu37 := Tryz.underlying37; have HI0 := ak hI; have HK := ak (KeepBut.refl w g none); have HL := ak hB.size; clear hI; have HW0 := ak hB.size; have HB := ak hB; clear hB; have H : ((spec_l1Cur_among.f s0_0 s0_1 s0_2 (([4, 5, 3, 2, 1, 7, 9, 12] : List Int))).bind fun bt197 => ((spec_l1Least.f bt197.1 a1).bind fun t200 => (spec_l1Cur_body.l0 k (([(⟨0, 0⟩ : S37)] : List (S37))) t200 s0_0 bt197.2.1 bt197.2.2))) = some (r1, r2, r3) := h; clear h; obtain ⟨y191, hy191⟩ : ∃ y_ : List (S37), y_ = (([(⟨0, 0⟩ : S37)] : List (S37))) := ⟨_, rfl⟩
 replace H : ((spec_l1Cur_among.f s0_0 s0_1 s0_2 (([4, 5, 3, 2, 1, 7, 9, 12] : List Int))).bind fun bt197 => ((spec_l1Least.f bt197.1 a1).bind fun t200 => (spec_l1Cur_body.l0 k y191 t200 s0_0 bt197.2.1 bt197.2.2))) = some (r1, r2, r3) := by first | (rw [hy191]; with_reducible exact H) | (have H2_ := (Option.bind_some _ _).symm.trans H; rw [hy191]; with_reducible exact H2_) | (have H2_ := (Option.bind_some _ _).symm.trans H; with_reducible exact H2_) | with_reducible exact H | (rw [hy191]; exact H) | exact H
 have Ny191 := ak hy191; clear hy191; obtain ⟨y194, hy194⟩ : ∃ y_ : List Int, y_ = (([4, 5, 3, 2, 1, 7, 9, 12] : List Int)) := ⟨_, rfl⟩
 replace H : ((spec_l1Cur_among.f s0_0 s0_1 s0_2 y194).bind fun bt197 => ((spec_l1Least.f bt197.1 a1).bind fun t200 => (spec_l1Cur_body.l0 k y191 t200 s0_0 bt197.2.1 bt197.2.2))) = some (r1, r2, r3) := by first | (rw [hy194]; with_reducible exact H) | (have H2_ := (Option.bind_some _ _).symm.trans H; rw [hy194]; with_reducible exact H2_) | (have H2_ := (Option.bind_some _ _).symm.trans H; with_reducible exact H2_) | with_reducible exact H | (rw [hy194]; exact H) | exact H
 have Ny194 := ak hy194; clear hy194; obtain ⟨⟨t197, t198, t199⟩, A30, H⟩ := Option.bind_eq_some_iff.mp H
 (try dsimp only at H)
 have A3 := ak A30; clear A30; obtain ⟨t200, A40, H⟩ := Option.bind_eq_some_iff.mp H
 have A4 := ak A40; clear A40; have H' := ak H; clear H
 go_enter Tryz.func51, Tryz.ntmps51
 go_wp2_with (first | ((with_reducible refine gate_dst (N := 10) rfl ?_); refine Kd.R_lit k37 _ 37 ?hg (N := 10) ?hd (xs := ([(⟨0, 0⟩ : S37)] : List (S37))) (inner := [.int .i64 0, .int .i64 0]) (ok := fun _ => True) (okp := fun _ => True) ?hr ?hp (fun _ hk => hk) trivial (Below.refl _ _) (Nat.le_refl _) (by simp) ?_; (case hd => rfl); (case hg => rfl); (case hr => (go_simp; done)); (case hp => exact (Reps.c2 (show Kd.M k37 _ _ _ (⟨0, 0⟩ : S37) [.int .i64 0, .int .i64 0] from (k37_mkM _ _ _ (⟨0, 0⟩ : S37) )) (Reps.none _ _))); intro v192 w5 ho6 hb hg_ hnew_; clear hg_ hnew_; (rw [← Ny191.out] at ho6); have n0_ := ak (Kd.R_lower ho6 (keep_size (w := w) (g := g) (row := none) (by repeat ((with_reducible exact HK.out))))); have n1_ := ak (IsS56.below (by repeat ((with_reducible exact HI0.out))) hb); have n2_ := ak (KeepBut.trans (by repeat ((with_reducible exact HK.out))) (KeepBut.of_below hb g none) (.inl rfl)); have n3_ := ak (below_step (by repeat ((with_reducible exact HB.out))) hb); clear HI0; clear HK; clear HB; have HO193 := n0_; have HI0 := n1_; have HK := n2_; have HB := n3_; clear n0_ n1_ n2_ n3_; clear hb ho6) | ((with_reducible refine gate_dst (N := 12) rfl ?_); refine Kd.R_lit (Kd.int .i64) _ 3 ?hg (N := 12) ?hd (xs := ([4, 5, 3, 2, 1, 7, 9, 12] : List Int)) (inner := [.int .i64 4, .int .i64 5, .int .i64 3, .int .i64 2, .int .i64 1, .int .i64 7, .int .i64 9, .int .i64 12]) (ok := fun _ => True) (okp := fun _ => True) ?hr ?hp (fun _ hk => hk) trivial (Below.refl _ _) (Nat.le_refl _) (by simp) ?_; (case hd => rfl); (case hg => rfl); (case hr => (go_simp; done)); (case hp => exact (Reps.one (show Kd.M (Kd.int .i64) _ _ _ 4 [.int .i64 4] from rfl) (Reps.one (show Kd.M (Kd.int .i64) _ _ _ 5 [.int .i64 5] from rfl) (Reps.one (show Kd.M (Kd.int .i64) _ _ _ 3 [.int .i64 3] from rfl) (Reps.one (show Kd.M (Kd.int .i64) _ _ _ 2 [.int .i64 2] from rfl) (Reps.one (show Kd.M (Kd.int .i64) _ _ _ 1 [.int .i64 1] from rfl) (Reps.one (show Kd.M (Kd.int .i64) _ _ _ 7 [.int .i64 7] from rfl) (Reps.one (show Kd.M (Kd.int .i64) _ _ _ 9 [.int .i64 9] from rfl) (Reps.one (show Kd.M (Kd.int .i64) _ _ _ 12 [.int .i64 12] from rfl) (Reps.none _ _)))))))))); intro v195 w7 ho8 hb hg_ hnew_; clear hg_ hnew_; (rw [← Ny194.out] at ho8); have n0_ := ak (Kd.R_below (rq HO193) hb); have n1_ := ak (Kd.R_lower ho8 (keep_size (w := w) (g := g) (row := none) (by repeat ((with_reducible exact HK.out))))); have n2_ := ak (IsS56.below (by repeat ((with_reducible exact HI0.out))) hb); have n3_ := ak (KeepBut.trans (by repeat ((with_reducible exact HK.out))) (KeepBut.of_below hb g none) (.inl rfl)); have n4_ := ak (below_step (by repeat ((with_reducible exact HB.out))) hb); clear HO193; clear HI0; clear HK; clear HB; have HO193 := n0_; have HO196 := n1_; have HI0 := n2_; have HK := n3_; have HB := n4_; clear n0_ n1_ n2_ n3_ n4_; clear hb ho8; obtain ⟨Ao9, co9, eo9⟩ := Kd.R_slice HO196.out; subst eo9) | ((with_reducible refine gate_callee (f := 41) rfl ?_); refine goesL_ (some 13) rfl rfl Tryz.func41 (by kernel_rfl) rfl #[.pointer (some ⟨g, 0, none⟩), .slice Ao9 y194.length co9] rfl aq ?_; (with_reducible refine (spec_l1Cur_among.calls g s0_0 s0_1 s0_2 _ _ y194 t197 t198 t199 w0 _ ?side1 ?side2 ?side3 ?side4 ?side5 A3.out).mono ?_); (case side1 => repeat ((with_reducible exact HI0.out))); (case side2 => repeat ((with_reducible exact HB.out))); (case side3 => exact cq (Kd.R_reads' HO196.out).2.2); (case side4 => exact (Kd.R_reads' HO196.out).2.1); (case side5 => exact far_slice (IsS56.own_ne HI0.out HO196.out (by decide))); rintro e w10 ⟨rfl, hi, hb, hk⟩; refine ⟨_, rfl, ?_⟩; have n0_ := ak (Kd.R_mono (Kd.R_keep (IsS56.apart (show IsS56 w0 _ g s0_0 s0_1 s0_2 from by repeat ((with_reducible exact HI0.out))) (rq HO193) (by decide)) hk (fun _ h => h.2)) (fun _ h => h.1)); have n1_ := ak (Kd.R_mono (Kd.R_keep (IsS56.apart (show IsS56 w0 _ g s0_0 s0_1 s0_2 from by repeat ((with_reducible exact HI0.out))) (rq HO196) (by decide)) hk (fun _ h => h.2)) (fun _ h => h.1)); have n2_ := ak (KeepBut.trans (by repeat ((with_reducible exact HK.out))) hk (.inl rfl)); have n3_ := ak (hb); have n4_ := ak (hi); clear HO193; clear HO196; clear HK; clear HB; clear HI0; have HO193 := n0_; have HO196 := n1_; have HK := n2_; have HB := n3_; have HI0 := n4_; clear n0_ n1_ n2_ n3_ n4_; (try clear hb); (try clear hk); (try clear hi)) | ((with_reducible refine gate_callee (f := 55) rfl ?_); refine goesL_ (some 15) rfl rfl Tryz.func55 (by kernel_rfl) rfl #[.int .i64 t197, .int .i64 a1] rfl aq ?_; (with_reducible refine (spec_l1Least.calls t197 a1 t200 _ A4.out).mono ?_); rintro e w' ⟨rfl, ⟨nd, rfl⟩⟩; refine ⟨_, rfl, ?_⟩))
 go_loopg [5] k (fun kq v5 w' => ∃ (x5_1 : List (S37)) (x1001_1 : Int) (x1002_1 : Int), Aside0 (spec_l1Cur_body.l0 kq x5_1 t200 s0_0 x1001_1 x1002_1 = some (r1, r2, r3)) ∧ Aside0 (kq ≤ k) ∧ Aside0 (Kd.R k37 37 w' w.heap.size (fun _ => True) v5 x5_1) ∧ Aside0 (IsS56 w0 w' g s0_0 x1001_1 x1002_1) ∧ Aside0 (KeepBut w w' g none) ∧ Aside0 (Below w0.heap.size w0 w'))
 case atStart => exact ⟨(y191), (t198), (t199), H', ⟨Nat.le_refl _⟩, ⟨rq HO193⟩, ⟨by repeat ((with_reducible first | exact HI0.out | apply IsS56.drewN))⟩, ⟨by repeat ((with_reducible first | exact HK.out | apply keep_drewN))⟩, ⟨by repeat ((with_reducible first | exact HB.out | apply pw_below_drewN))⟩⟩
 case round =>
  clear H'; obtain ⟨x5_1, x1001_1, x1002_1, HA, HK1, HO_5, HI0, HK, HB⟩ := hrel
  cases gk with
  | zero => exact absurd HA.out (by simp [spec_l1Cur_body.l0])
  | succ k1 =>
   have H := HA.out; clear HA; simp only [spec_l1Cur_body.l0] at H
   by_cases c11 : (x5_1.length : Int) < t200
   ·rw [if_pos c11] at H
    have c11b0 := decide_eq_true c11; clear c11; obtain ⟨t201, A120, H⟩ := Option.bind_eq_some_iff.mp H
    have A12 := ak A120; clear A120; obtain ⟨⟨t204, t205, t206⟩, A130, H⟩ := Option.bind_eq_some_iff.mp H
    (try dsimp only at H)
    have A13 := ak A130; clear A130
    revert H; refine ig_ fun c14 H => ?_
    have c14b0 := decide_eq_true c14; clear c14
    revert H; refine ig_ fun c15 H => ?_
    have c15b0 := decide_eq_true c15; clear c15; obtain ⟨t208, A160, H⟩ := Option.bind_eq_some_iff.mp H
    have A16 := ak A160; clear A160; obtain ⟨t211, A170, H⟩ := Option.bind_eq_some_iff.mp H
    have A17 := ak A170; clear A170; have H' := ak H; clear H; obtain ⟨Ao18, co18, eo18⟩ := Kd.R_slice HO_5.out; subst eo18
    go_wp2_with (first | ((with_reducible refine gate_callee (f := 37) rfl ?_); refine goesL_ (some 21) rfl rfl Tryz.func37 (by kernel_rfl) rfl #[.slice Ao18 x5_1.length co18] rfl aq ?_; (with_reducible refine (spec_l8Edge.calls k1 _ _ x5_1 t201 _ ?side1 ?side2 A12.out).mono ?_); (case side1 => exact cq (Kd.R_reads' HO_5.out).2.2); (case side2 => exact (Kd.R_reads' HO_5.out).2.1); rintro e w19 ⟨v202, rfl, ho0, hb⟩; refine ⟨_, rfl, ?_⟩; have n0_ := ak (Kd.R_elder' (rq HO_5) (Kd.R_base ho0) hb); have n1_ := ak (Kd.R_lower (Kd.R_new' ho0 (Kd.R_lt (rq HO_5))) (keep_size (w := w) (g := g) (row := none) (by repeat ((with_reducible exact HK.out))))); have n2_ := ak (IsS56.below (by repeat ((with_reducible exact HI0.out))) hb); have n3_ := ak (KeepBut.trans (by repeat ((with_reducible exact HK.out))) (KeepBut.of_below hb g none) (.inl rfl)); have n4_ := ak (below_step (by repeat ((with_reducible exact HB.out))) hb); clear HO_5; clear HI0; clear HK; clear HB; have HO_5 := n0_; have HO203 := n1_; have HI0 := n2_; have HK := n3_; have HB := n4_; clear n0_ n1_ n2_ n3_ n4_; (try clear hb); (try clear ho0); obtain ⟨Ao20, co20, eo20⟩ := Kd.R_slice HO203.out; subst eo20) | ((with_reducible refine gate_callee (f := 71) rfl ?_); refine goesL_ (some 27) rfl rfl Tryz.func71 (by kernel_rfl) rfl #[.pointer (some ⟨g, 0, none⟩), .int .i64 (t201.length : Int)] rfl aq ?_; (with_reducible refine (spec_l1Cur_pick.calls g s0_0 x1001_1 x1002_1 (t201.length : Int) t204 t205 t206 w0 _ ?side1 ?side2 A13.out).mono ?_); (case side1 => repeat ((with_reducible exact HI0.out))); (case side2 => repeat ((with_reducible exact HB.out))); rintro e w21 ⟨rfl, hi, hb, hk⟩; refine ⟨_, rfl, ?_⟩; have n0_ := ak (Kd.R_mono (Kd.R_keep (IsS56.apart (show IsS56 w0 _ g s0_0 x1001_1 x1002_1 from by repeat ((with_reducible exact HI0.out))) (rq HO_5) (by decide)) hk (fun _ h => h.2)) (fun _ h => h.1)); have n1_ := ak (Kd.R_mono (Kd.R_keep (IsS56.apart (show IsS56 w0 _ g s0_0 x1001_1 x1002_1 from by repeat ((with_reducible exact HI0.out))) (rq HO203) (by decide)) hk (fun _ h => h.2)) (fun _ h => h.1)); have n2_ := ak (KeepBut.trans (by repeat ((with_reducible exact HK.out))) hk (.inl rfl)); have n3_ := ak (hb); have n4_ := ak (hi); clear HO_5; clear HO203; clear HK; clear HB; clear HI0; have HO_5 := n0_; have HO203 := n1_; have HK := n2_; have HB := n3_; have HI0 := n4_; clear n0_ n1_ n2_ n3_ n4_; (try clear hb); (try clear hk); (try clear hi); have p207 : 0 ≤ (t204 : Int) := dq; have q207 : t204 < (t201.length : Int) := dq; obtain ⟨ad207, e207, hx207_0, hx207_1⟩ := at_T37 (Kd.R_reads' HO203.out).2.2 t204 p207 q207; cases e207; replace p207 := eq_true p207; replace q207 := eq_true q207) | ((with_reducible refine gate_callee (f := 40) rfl ?_); refine goesL_ (some 30) rfl rfl Tryz.func40 (by kernel_rfl) rfl #[.slice Ao18 x5_1.length co18, .agg #[.int .i64 ((rd_T37 t201 t204).f0), .int .i64 ((rd_T37 t201 t204).f1)]] rfl aq ?_; (with_reducible refine (spec_l8Put.calls k1 _ _ x5_1 ((rd_T37 t201 t204).f0) ((rd_T37 t201 t204).f1) t208 _ ?side1 ?side2 A16.out).mono ?_); (case side1 => exact cq (Kd.R_reads' HO_5.out).2.2); (case side2 => exact (Kd.R_reads' HO_5.out).2.1); rintro e w22 ⟨v209, rfl, ho0, hb⟩; refine ⟨_, rfl, ?_⟩; have n0_ := ak (Kd.R_elder' (rq HO_5) (Kd.R_base ho0) hb); have n1_ := ak (Kd.R_elder' (rq HO203) (Kd.R_base ho0) hb); have n2_ := ak (Kd.R_lower (Kd.R_new' (Kd.R_new' ho0 (Kd.R_lt (rq HO_5))) (Kd.R_lt (rq HO203))) (keep_size (w := w) (g := g) (row := none) (by repeat ((with_reducible exact HK.out))))); have n3_ := ak (IsS56.below (by repeat ((with_reducible exact HI0.out))) hb); have n4_ := ak (KeepBut.trans (by repeat ((with_reducible exact HK.out))) (KeepBut.of_below hb g none) (.inl rfl)); have n5_ := ak (below_step (by repeat ((with_reducible exact HB.out))) hb); clear HO_5; clear HO203; clear HI0; clear HK; clear HB; have HO_5 := n0_; have HO203 := n1_; have HO210 := n2_; have HI0 := n3_; have HK := n4_; have HB := n5_; clear n0_ n1_ n2_ n3_ n4_ n5_; (try clear hb); (try clear ho0); obtain ⟨Ao23, co23, eo23⟩ := Kd.R_slice HO210.out; subst eo23) | ((with_reducible refine gate_callee (f := 39) rfl ?_); refine goesL_ (some 31) rfl rfl Tryz.func39 (by kernel_rfl) rfl #[.slice Ao23 t208.length co23] rfl aq ?_; (with_reducible refine (spec_l8Down.calls k1 _ _ t208 t211 _ ?side1 ?side2 A17.out).mono ?_); (case side1 => exact cq (Kd.R_reads' HO210.out).2.2); (case side2 => exact (Kd.R_reads' HO210.out).2.1); rintro e w24 ⟨v212, rfl, ho0, hb⟩; refine ⟨_, rfl, ?_⟩; have n0_ := ak (Kd.R_elder' (rq HO_5) (Kd.R_base ho0) hb); have n1_ := ak (Kd.R_elder' (rq HO203) (Kd.R_base ho0) hb); have n2_ := ak (Kd.R_elder' (rq HO210) (Kd.R_base ho0) hb); have n3_ := ak (Kd.R_lower (Kd.R_new' (Kd.R_new' (Kd.R_new' ho0 (Kd.R_lt (rq HO_5))) (Kd.R_lt (rq HO203))) (Kd.R_lt (rq HO210))) (keep_size (w := w) (g := g) (row := none) (by repeat ((with_reducible exact HK.out))))); have n4_ := ak (IsS56.below (by repeat ((with_reducible exact HI0.out))) hb); have n5_ := ak (KeepBut.trans (by repeat ((with_reducible exact HK.out))) (KeepBut.of_below hb g none) (.inl rfl)); have n6_ := ak (below_step (by repeat ((with_reducible exact HB.out))) hb); clear HO_5; clear HO203; clear HO210; clear HI0; clear HK; clear HB; have HO_5 := n0_; have HO203 := n1_; have HO210 := n2_; have HO213 := n3_; have HI0 := n4_; have HK := n5_; have HB := n6_; clear n0_ n1_ n2_ n3_ n4_ n5_ n6_; (try clear hb); (try clear ho0)))
    go_roundg k1
    case measure => have := HK1.out; omega
    case rel => exact ⟨(t211), (t205), (t206), H', ⟨by have := HK1.out; omega⟩, ⟨by exact Kd.R_mono HO213.out (fun _ hk => trivial)⟩, ⟨by repeat ((with_reducible exact HI0.out))⟩, ⟨by repeat ((with_reducible exact HK.out))⟩, ⟨by repeat ((with_reducible exact HB.out))⟩⟩
   ·rw [if_neg c11] at H
    have c11b0 := decide_eq_false c11; clear c11; obtain ⟨⟨t214, t215, t216⟩, A250, H⟩ := Option.bind_eq_some_iff.mp H
    (try dsimp only at H)
    have A25 := ak A250; clear A250
    by_cases c26 : t214 = 0
    ·rw [if_pos c26] at H
     have c26b0 : (t214 == 0) = true := beq_iff_eq.mpr c26; have c26b1 : (t214 != 0) = false := bne_eq_false_iff_eq.mpr c26; clear c26; obtain ⟨⟨t217, t218, t219⟩, A270, H⟩ := Option.bind_eq_some_iff.mp H
     (try dsimp only at H)
     have A27 := ak A270; clear A270; obtain ⟨y220, hy220⟩ : ∃ y_ : List Int, y_ = (([(-1), 12, 4611686018427387904] : List Int)) := ⟨_, rfl⟩
     replace H : ((spec_l1Cur_among.f s0_0 t218 t219 y220).bind fun bt223 => (if 0 ≤ t217 then (if t217 < (x5_1.length : Int) then (some ((x5_1.set (t217 : Int).toNat (⟨bt223.1, 0⟩ : S37)), bt223.2.1, bt223.2.2)) else (none)) else (none))) = some (r1, r2, r3) := by first | (rw [hy220]; with_reducible exact H) | (have H2_ := (Option.bind_some _ _).symm.trans H; rw [hy220]; with_reducible exact H2_) | (have H2_ := (Option.bind_some _ _).symm.trans H; with_reducible exact H2_) | with_reducible exact H | (rw [hy220]; exact H) | exact H
     have Ny220 := ak hy220; clear hy220; obtain ⟨⟨t223, t224, t225⟩, A280, H⟩ := Option.bind_eq_some_iff.mp H
     (try dsimp only at H)
     have A28 := ak A280; clear A280
     revert H; refine ig_ fun c29 H => ?_
     have c29b0 := decide_eq_true c29; clear c29
     revert H; refine ig_ fun c30 H => ?_
     have c30b0 := decide_eq_true c30; clear c30; obtain ⟨y226, hy226⟩ : ∃ y_ : List (S37), y_ = (x5_1.set (t217 : Int).toNat (⟨t223, 0⟩ : S37)) := ⟨_, rfl⟩
     replace H : (some (y226, t224, t225)) = some (r1, r2, r3) := by first | (rw [hy226]; with_reducible exact H) | (have H2_ := (Option.bind_some _ _).symm.trans H; rw [hy226]; with_reducible exact H2_) | (have H2_ := (Option.bind_some _ _).symm.trans H; with_reducible exact H2_) | with_reducible exact H | (rw [hy226]; exact H) | exact H
     have Ny226 := ak hy226; clear hy226; simp only [Option.some.injEq, Prod.mk.injEq] at H; obtain ⟨rfl, rfl, rfl⟩ := H; obtain ⟨Ao32, co32, eo32⟩ := Kd.R_slice HO_5.out; subst eo32
     go_wp2_with (first | ((with_reducible refine gate_callee (f := 71) rfl ?_); refine goesL_ (some 33) rfl rfl Tryz.func71 (by kernel_rfl) rfl #[.pointer (some ⟨g, 0, none⟩), .int .i64 50] rfl aq ?_; (with_reducible refine (spec_l1Cur_pick.calls g s0_0 x1001_1 x1002_1 50 t214 t215 t216 w0 _ ?side1 ?side2 A25.out).mono ?_); (case side1 => repeat ((with_reducible exact HI0.out))); (case side2 => repeat ((with_reducible exact HB.out))); rintro e w33 ⟨rfl, hi, hb, hk⟩; refine ⟨_, rfl, ?_⟩; have n0_ := ak (Kd.R_mono (Kd.R_keep (IsS56.apart (show IsS56 w0 _ g s0_0 x1001_1 x1002_1 from by repeat ((with_reducible exact HI0.out))) (rq HO_5) (by decide)) hk (fun _ h => h.2)) (fun _ h => h.1)); have n1_ := ak (KeepBut.trans (by repeat ((with_reducible exact HK.out))) hk (.inl rfl)); have n2_ := ak (hb); have n3_ := ak (hi); clear HO_5; clear HK; clear HB; clear HI0; have HO_5 := n0_; have HK := n1_; have HB := n2_; have HI0 := n3_; clear n0_ n1_ n2_ n3_; (try clear hb); (try clear hk); (try clear hi)) | ((with_reducible refine gate_callee (f := 71) rfl ?_); refine goesL_ (some 40) rfl rfl Tryz.func71 (by kernel_rfl) rfl #[.pointer (some ⟨g, 0, none⟩), .int .i64 (x5_1.length : Int)] rfl aq ?_; (with_reducible refine (spec_l1Cur_pick.calls g s0_0 t215 t216 (x5_1.length : Int) t217 t218 t219 w0 _ ?side1 ?side2 A27.out).mono ?_); (case side1 => repeat ((with_reducible exact HI0.out))); (case side2 => repeat ((with_reducible exact HB.out))); rintro e w34 ⟨rfl, hi, hb, hk⟩; refine ⟨_, rfl, ?_⟩; have n0_ := ak (Kd.R_mono (Kd.R_keep (IsS56.apart (show IsS56 w0 _ g s0_0 t215 t216 from by repeat ((with_reducible exact HI0.out))) (rq HO_5) (by decide)) hk (fun _ h => h.2)) (fun _ h => h.1)); have n1_ := ak (KeepBut.trans (by repeat ((with_reducible exact HK.out))) hk (.inl rfl)); have n2_ := ak (hb); have n3_ := ak (hi); clear HO_5; clear HK; clear HB; clear HI0; have HO_5 := n0_; have HK := n1_; have HB := n2_; have HI0 := n3_; clear n0_ n1_ n2_ n3_; (try clear hb); (try clear hk); (try clear hi)) | ((with_reducible refine gate_dst (N := 42) rfl ?_); refine Kd.R_lit (Kd.int .i64) _ 3 ?hg (N := 42) ?hd (xs := ([(-1), 12, 4611686018427387904] : List Int)) (inner := [.int .i64 (-1), .int .i64 12, .int .i64 4611686018427387904]) (ok := fun _ => True) (okp := fun _ => True) ?hr ?hp (fun _ hk => hk) trivial (Below.refl _ _) (Nat.le_refl _) (by simp) ?_; (case hd => rfl); (case hg => rfl); (case hr => (go_simp; done)); (case hp => exact (Reps.one (show Kd.M (Kd.int .i64) _ _ _ (-1) [.int .i64 (-1)] from rfl) (Reps.one (show Kd.M (Kd.int .i64) _ _ _ 12 [.int .i64 12] from rfl) (Reps.one (show Kd.M (Kd.int .i64) _ _ _ 4611686018427387904 [.int .i64 4611686018427387904] from rfl) (Reps.none _ _))))); intro v221 w35 ho36 hb hg_ hnew_; clear hg_ hnew_; (rw [← Ny220.out] at ho36); have n0_ := ak (Kd.R_below (rq HO_5) hb); have n1_ := ak (Kd.R_lower ho36 (keep_size (w := w) (g := g) (row := none) (by repeat ((with_reducible exact HK.out))))); have n2_ := ak (IsS56.below (by repeat ((with_reducible exact HI0.out))) hb); have n3_ := ak (KeepBut.trans (by repeat ((with_reducible exact HK.out))) (KeepBut.of_below hb g none) (.inl rfl)); have n4_ := ak (below_step (by repeat ((with_reducible exact HB.out))) hb); clear HO_5; clear HI0; clear HK; clear HB; have HO_5 := n0_; have HO222 := n1_; have HI0 := n2_; have HK := n3_; have HB := n4_; clear n0_ n1_ n2_ n3_ n4_; clear hb ho36; obtain ⟨Ao37, co37, eo37⟩ := Kd.R_slice HO222.out; subst eo37) | ((with_reducible refine gate_callee (f := 41) rfl ?_); refine goesL_ (some 43) rfl rfl Tryz.func41 (by kernel_rfl) rfl #[.pointer (some ⟨g, 0, none⟩), .slice Ao37 y220.length co37] rfl aq ?_; (with_reducible refine (spec_l1Cur_among.calls g s0_0 t218 t219 _ _ y220 t223 t224 t225 w0 _ ?side1 ?side2 ?side3 ?side4 ?side5 A28.out).mono ?_); (case side1 => repeat ((with_reducible exact HI0.out))); (case side2 => repeat ((with_reducible exact HB.out))); (case side3 => exact cq (Kd.R_reads' HO222.out).2.2); (case side4 => exact (Kd.R_reads' HO222.out).2.1); (case side5 => exact far_slice (IsS56.own_ne HI0.out HO222.out (by decide))); rintro e w38 ⟨rfl, hi, hb, hk⟩; refine ⟨_, rfl, ?_⟩; have n0_ := ak (Kd.R_mono (Kd.R_keep (IsS56.apart (show IsS56 w0 _ g s0_0 t218 t219 from by repeat ((with_reducible exact HI0.out))) (rq HO_5) (by decide)) hk (fun _ h => h.2)) (fun _ h => h.1)); have n1_ := ak (Kd.R_mono (Kd.R_keep (IsS56.apart (show IsS56 w0 _ g s0_0 t218 t219 from by repeat ((with_reducible exact HI0.out))) (rq HO222) (by decide)) hk (fun _ h => h.2)) (fun _ h => h.1)); have n2_ := ak (KeepBut.trans (by repeat ((with_reducible exact HK.out))) hk (.inl rfl)); have n3_ := ak (hb); have n4_ := ak (hi); clear HO_5; clear HO222; clear HK; clear HB; clear HI0; have HO_5 := n0_; have HO222 := n1_; have HK := n2_; have HB := n3_; have HI0 := n4_; clear n0_ n1_ n2_ n3_ n4_; (try clear hb); (try clear hk); (try clear hi); have p31 : 0 ≤ (t217 : Int) := dq; have q31 : (t217 : Int) < ((x5_1.length : Int) : Int) := dq; obtain ⟨go31, co31, eo31, gb31, gl31, cl31, HG31⟩ := Kd.R_form HO_5.out (by omega); (first | cases eo31 | (injection eo31 with ea_ en_ ec_; (fail); subst ec_; clear en_)); have GB31 := ak gb31; have GG31 := ak HG31; clear gb31 gl31 HG31; obtain ⟨ce31, hcl31, hM31, hcc31, hfr31⟩ := Kd.R_elem HO_5.out z37 (t217 : Int) p31 q31; obtain rfl := k37_openM hM31; have hx31_0 : w38.cell? ⟨go31, (t217 : Int).toNat * 2, none⟩ = some (.int .i64 ((rd_T37 x5_1 t217).f0)) := hcc31 0 _ rfl; have hx31_1 : w38.cell? ⟨go31, (t217 : Int).toNat * 2 + 1, none⟩ = some (.int .i64 ((rd_T37 x5_1 t217).f1)) := hcc31 1 _ rfl; have hf31_0 : w38.frozen? ⟨go31, (t217 : Int).toNat * 2, none⟩ = false := hfr31 0; have hf31_1 : w38.frozen? ⟨go31, (t217 : Int).toNat * 2 + 1, none⟩ = false := hfr31 1; clear hcl31 hcc31 hfr31 hM31; replace p31 := eq_true p31; replace q31 := eq_true q31; have HX39 := ak (show Kd.R k37 37 w38 w.heap.size (fun _ => True) (.slice (some ⟨go31, 0, none⟩) x5_1.length co32) x5_1 from (rq HO_5)); obtain ⟨ce39, hcl39, hM39, hcc39, hfr39⟩ := Kd.R_elem HX39.out z37 (t217 : Int) (dq) (by have h_ : (t217 : Int) < ((x5_1.length : Int) : Int) := dq; exact h_); obtain rfl := k37_openM hM39; have HP39 := Kd.R_seg HX39.out (t217 : Int) (dq) (by have h_ : (t217 : Int) < ((x5_1.length : Int) : Int) := dq; exact h_) (seg := [.int .i64 t223, .int .i64 0]) (j := 0) hcl39 hcc39 (show 2 ≤ 2 from by decide) (x' := (⟨t223, 0⟩ : S37)) (k37_mkM _ _ _ (⟨t223, 0⟩ : S37) ) (fun _ hk => hk); have hx39_0 := hcc39 0 _ rfl; (try simp only [show (k37).sz = 2 from rfl, Nat.mul_one, Nat.add_zero] at hx39_0); have hf39_0 := hfr39 0; (try simp only [show (k37).sz = 2 from rfl, Nat.mul_one, Nat.add_zero] at hf39_0); have hx39_1 := hcc39 1 _ rfl; (try simp only [show (k37).sz = 2 from rfl, Nat.mul_one, Nat.add_zero] at hx39_1); have hf39_1 := hfr39 1; (try simp only [show (k37).sz = 2 from rfl, Nat.mul_one, Nat.add_zero] at hf39_1); clear hcl39 hcc39 hfr39 hM39) | ((with_reducible refine gate_store (t := 37) (p := 45) rfl ?_); refine store_event (t := 37) (p := 45) (v := ?vo_w40) (w1 := ((w38.setCell ⟨go31, (t217 : Int).toNat * 2, none⟩ (.int .i64 t223)).setCell ⟨go31, (t217 : Int).toNat * 2 + 1, none⟩ (.int .i64 0))) ?hg ?ho ?hn ?hr ?_; (case ho => rfl); (case hg => rfl); (case hn => rfl); (case hr => (go_simp; done)); intro w40 hw; have hg : w38.grownBy w40 (some go31) := (by rw [hw]; exact HP39.2); have hp_ : Kd.R k37 37 w40 w.heap.size (fun _ => True) (.slice (some ⟨go31, 0, none⟩) x5_1.length co32) y226 := (by rw [hw, Ny226.out]; exact HP39.1); clear HP39; have n0_ := ak (hp_); have n1_ := ak (IsS56.grown (by repeat ((with_reducible exact HI0.out))) hg (IsS56.own_ne HI0.out HO_5.out (by decide))); have n2_ := ak (Kd.R_over' (v := (.slice (some ⟨go31, 0, none⟩) x5_1.length co32)) (rq HO222) (Kd.R_typed HO_5.out) (by decide) hg); have n3_ := ak ((by rw [hw]; exact below_set (below_set (HB.out) (Nat.le_trans HL.out GB31.out)) (Nat.le_trans HL.out GB31.out) : Below w0.heap.size w0 w40)); have n4_ := ak (KeepBut.trans (by repeat ((with_reducible exact HK.out))) (KeepBut.of_grown hg g) (Kd.R_base2 HO_5.out)); clear HO_5; clear HI0; clear HO222; clear HB; clear HK; have HO_5 := n0_; have HI0 := n1_; have HO222 := n2_; have HB := n3_; have HK := n4_; clear n0_ n1_ n2_ n3_ n4_; clear hg hw hp_))
     go_ret; exact ⟨_, eq_, rq HO_5, by repeat ((with_reducible exact HI0.out)), by repeat ((with_reducible exact HB.out)), by repeat ((with_reducible exact HK.out))⟩
    ·rw [if_neg c26] at H
     have c26b0 : (t214 == 0) = false := beq_eq_false_iff_ne.mpr c26; have c26b1 : (t214 != 0) = true := bne_iff_ne.mpr c26
     by_cases c41 : t214 = 1
     ·rw [if_pos c41] at H
      have c41b0 : (t214 == 1) = true := beq_iff_eq.mpr c41; have c41b1 : (t214 != 1) = false := bne_eq_false_iff_eq.mpr c41; clear c41; obtain ⟨ji42, hji42⟩ : ∃ j_ : Int, (wrap64 ((x5_1.length : Int) - 1)) = j_ := ⟨_, rfl⟩
      (rw [hji42] at H)
      have hji42w : (IntKind.i64.wrap ((x5_1.length : Int) - 1)) = ji42 := (i64_w _).trans hji42
      revert H; refine ig_ fun c43 H => ?_
      have c43b0 := decide_eq_true c43; clear c43
      revert H; refine ig_ fun c44 H => ?_
      have c44b0 := decide_eq_true c44; clear c44
      revert H; refine ig_ fun c45 H => ?_
      have LMc45 := ak c45; clear c45; obtain ⟨y229, hy229⟩ : ∃ y_ : List (S37), y_ = (x5_1 ++ [(⟨(rd_T37 x5_1 (ji42)).f0, wrap64 (((rd_T37 x5_1 (ji42)).f1) + 2)⟩ : S37)]) := ⟨_, rfl⟩
      replace H : (some (y229, t215, t216)) = some (r1, r2, r3) := by first | (rw [hy229]; with_reducible exact H) | (have H2_ := (Option.bind_some _ _).symm.trans H; rw [hy229]; with_reducible exact H2_) | (have H2_ := (Option.bind_some _ _).symm.trans H; with_reducible exact H2_) | with_reducible exact H | (rw [hy229]; exact H) | exact H
      have Ny229 := ak hy229; clear hy229; simp only [Option.some.injEq, Prod.mk.injEq] at H; obtain ⟨rfl, rfl, rfl⟩ := H; obtain ⟨Ao46, co46, eo46⟩ := Kd.R_slice HO_5.out; subst eo46
      try go_wp2_with (((with_reducible refine gate_callee (f := 71) rfl ?_); refine goesL_ (some 33) rfl rfl Tryz.func71 (by kernel_rfl) rfl #[.pointer (some ⟨g, 0, none⟩), .int .i64 50] rfl aq ?_; (with_reducible refine (spec_l1Cur_pick.calls g s0_0 x1001_1 x1002_1 50 t214 t215 t216 w0 _ ?side1 ?side2 A25.out).mono ?_); (case side1 => repeat ((with_reducible exact HI0.out))); (case side2 => repeat ((with_reducible exact HB.out))); rintro e w47 ⟨rfl, hi, hb, hk⟩; refine ⟨_, rfl, ?_⟩; have n0_ := ak (Kd.R_mono (Kd.R_keep (IsS56.apart (show IsS56 w0 _ g s0_0 x1001_1 x1002_1 from by repeat ((with_reducible exact HI0.out))) (rq HO_5) (by decide)) hk (fun _ h => h.2)) (fun _ h => h.1)); have n1_ := ak (KeepBut.trans (by repeat ((with_reducible exact HK.out))) hk (.inl rfl)); have n2_ := ak (hb); have n3_ := ak (hi); clear HO_5; clear HK; clear HB; clear HI0; have HO_5 := n0_; have HK := n1_; have HB := n2_; have HI0 := n3_; clear n0_ n1_ n2_ n3_; (try clear hb); (try clear hk); (try clear hi)))
      have n0_ := ak (Kd.R_drew HO_5.out); have n1_ := ak (IsS56.drew HI0.out); have n2_ := ak (keep_drew HK.out); have n3_ := ak (below_drew1 HB.out); clear HO_5; clear HI0; clear HK; clear HB; have HO_5 := n0_; have HI0 := n1_; have HK := n2_; have HB := n3_; clear n0_ n1_ n2_ n3_; have p227 : 0 ≤ ((ji42) : Int) := dq; have q227 : (ji42) < (x5_1.length : Int) := dq; obtain ⟨ad227, e227, hx227_0, hx227_1⟩ := at_T37 (Kd.R_reads' HO_5.out).2.2 (ji42) p227 q227; cases e227; replace p227 := eq_true p227; replace q227 := eq_true q227; have p228 : 0 ≤ ((ji42) : Int) := dq; have q228 : (ji42) < (x5_1.length : Int) := dq; obtain ⟨ad228, e228, hx228_0, hx228_1⟩ := at_T37 (Kd.R_reads' HO_5.out).2.2 (ji42) p228 q228; obtain rfl : ad227 = ad228 := (by injection e228); replace p228 := eq_true p228; replace q228 := eq_true q228; refine start_ (n := 20) (S := fun w' => w'.cell? (ad227.add (((ji42)).toNat * 2)) = some (.int .i64 ((rd_T37 x5_1 (ji42)).f0)) ∧ w'.cell? ⟨(ad227.add (((ji42)).toNat * 2)).block, (ad227.add (((ji42)).toNat * 2)).off + 1, none⟩ = some (.int .i64 ((rd_T37 x5_1 (ji42)).f1)) ∧ w'.cell? (ad227.add (((ji42)).toNat * 2)) = some (.int .i64 ((rd_T37 x5_1 (ji42)).f0)) ∧ w'.cell? ⟨(ad227.add (((ji42)).toNat * 2)).block, (ad227.add (((ji42)).toNat * 2)).off + 1, none⟩ = some (.int .i64 ((rd_T37 x5_1 (ji42)).f1))) (ds := [17, 18]) #[Z,Z,Z,Z,Z,Z,Z,Z,Z,Z,Z,Z,Z,Z,Z,Z,Z,Z,Z,Z] (by kernel_rfl) rfl rfl ⟨hx227_0, hx227_1, hx228_0, hx228_1⟩ (fun hHeld => ?_); refine with_tabW spec_l1Cur_body.tab10 spec_l1Cur_body.bits10 (fun HT_ HW_ => ?_)
      generalize w47.drew = w48 at HO_5 HI0 HK HB hx227_0 hx227_1 hx228_0 hx228_1 hHeld ⊢
      refine pq_ (i := 0) (N := some 48) #[Y,Z,Z,Z,Z,Z,Z,Z,Z,Z,Z,Z,Z,Z,Z,Z,Z,Z,Z,Z] HT_ ?_; refine pq_ (i := 1) (N := some 49) #[Y,Y,Z,Z,Z,Z,Z,Z,Z,Z,Z,Z,Z,Z,Z,Z,Z,Z,Z,Z] HT_ ?_; refine pq_ (i := 2) (N := some 50) #[Y,Y,Y,Z,Z,Z,Z,Z,Z,Z,Z,Z,Z,Z,Z,Z,Z,Z,Z,Z] HT_ ?_; refine pq_ (i := 3) (N := some 51) #[Y,Y,Y,Y,Z,Z,Z,Z,Z,Z,Z,Z,Z,Z,Z,Z,Z,Z,Z,Z] HT_ ?_; refine pq_ (i := 4) (N := some 52) #[Y,Y,Y,Y,Y,Z,Z,Z,Z,Z,Z,Z,Z,Z,Z,Z,Z,Z,Z,Z] HT_ ?_; refine pq_ (i := 5) (N := some 53) #[Y,Y,Y,Y,Y,Y,Z,Z,Z,Z,Z,Z,Z,Z,Z,Z,Z,Z,Z,Z] HT_ ?_; refine pq_ (i := 6) (N := some 54) #[Y,Y,Y,Y,Y,Y,Y,Z,Z,Z,Z,Z,Z,Z,Z,Z,Z,Z,Z,Z] HT_ ?_; refine pq_ (i := 8) (N := some 56) #[Y,Y,Y,Y,Y,Y,Y,Z,Y,Z,Z,Z,Z,Z,Z,Z,Z,Z,Z,Z] HT_ ?_; refine pq_ (i := 9) (N := some 57) #[Y,Y,Y,Y,Y,Y,Y,Z,Y,Y,Z,Z,Z,Z,Z,Z,Z,Z,Z,Z] HT_ ?_; refine pq_ (i := 10) (N := some 58) #[Y,Y,Y,Y,Y,Y,Y,Z,Y,Y,Y,Z,Z,Z,Z,Z,Z,Z,Z,Z] HT_ ?_; refine pq_ (i := 11) (N := some 59) #[Y,Y,Y,Y,Y,Y,Y,Z,Y,Y,Y,Y,Z,Z,Z,Z,Z,Z,Z,Z] HT_ ?_; refine pq_ (i := 12) (N := some 60) #[Y,Y,Y,Y,Y,Y,Y,Z,Y,Y,Y,Y,Y,Z,Z,Z,Z,Z,Z,Z] HT_ ?_; refine pq_ (i := 13) (N := some 61) #[Y,Y,Y,Y,Y,Y,Y,Z,Y,Y,Y,Y,Y,Y,Z,Z,Z,Z,Z,Z] HT_ ?_; refine tk_ (i := 7) (N := some 55) #[Y,Y,Y,Y,Y,Y,Y,Y,Y,Y,Y,Y,Y,Y,Z,Z,Z,Z,Z,Z] HT_ HW_ hHeld ?_; refine tk_ (i := 14) (N := some 62) #[Y,Y,Y,Y,Y,Y,Y,Y,Y,Y,Y,Y,Y,Y,Y,Z,Z,Z,Z,Z] HT_ HW_ hHeld ?_; refine pq_ (i := 15) (N := some 63) #[Y,Y,Y,Y,Y,Y,Y,Y,Y,Y,Y,Y,Y,Y,Y,Y,Z,Z,Z,Z] HT_ ?_; refine pq_ (i := 16) (N := some 64) #[Y,Y,Y,Y,Y,Y,Y,Y,Y,Y,Y,Y,Y,Y,Y,Y,Y,Z,Z,Z] HT_ ?_; refine last_ (i := 17) (N := some 65) #[Y,Y,Y,Y,Y,Y,Y,Y,Y,Y,Y,Y,Y,Y,Y,Y,Y,Y,Z,Z] rfl rfl (one_of HT_.out (by kernel_rfl)) (by decide) (fun K hK => ?_); refine value_ (w1 := ?_) (v := ?_) (by rfl) rfl ?_ ?_; rotate_left 2
      ·go_simp
       constructor
       ·rfl
       ·rfl
      refine hK.out _ _ ?_; clear hK K; refine norm_ (a' := ?_) ?_ ?_; rotate_left
      ·show Act.put _ (some 65) _ = _
       simp only [Act.put, sA, sZ, sS, i64_w, i32_w]
       rfl
      refine last_ (i := 18) (N := some 66) #[Y,Y,Y,Y,Y,Y,Y,Y,Y,Y,Y,Y,Y,Y,Y,Y,Y,Y,Y,Z] rfl rfl (one_of HT_.out (by kernel_rfl)) (by decide) (fun K hK => ?_); refine Kd.R_append_step k37 w.heap.size (by rfl) (.tmp 48) (.tmp 65) 24 37 (.agg #[(.int .i64 0), (.int .i64 0)]) 16 rfl Tryz.underlying24 info37 rfl (by decide) (by omega) (.slice (some ad227) x5_1.length co46) x5_1 (⟨(rd_T37 x5_1 (ji42)).f0, wrap64 (((rd_T37 x5_1 (ji42)).f1) + 2)⟩ : S37) [.int .i64 ((rd_T37 x5_1 (ji42)).f0), .int .i64 (wrap64 (((rd_T37 x5_1 (ji42)).f1) + 2))] (fun _ => True) (fun _ => False) rfl rfl ?aP (fun _ hk => hk.elim) ?aF ?aO (Below.refl _ _) ?aS ?aL ?_
      (case aP => exact k37_mkM _ _ _ (⟨(rd_T37 x5_1 (ji42)).f0, wrap64 (((rd_T37 x5_1 (ji42)).f1) + 2)⟩ : S37))
      (case aF => exact (fun _ _ => trivial))
      (case aO => exact (rq HO_5))
      (case aS => exact (keep_size (w := w) (g := g) (row := none) (by repeat ((with_reducible exact HK.out)))))
      (case aL => have := LMc45.out; omega)
      intro v230 w49 ho hb hg hat; rw [← Ny229.out] at ho; have n0_ := ak (IsS56.grown (by repeat ((with_reducible exact HI0.out))) hg (IsS56.own_ne HI0.out HO_5.out (by decide))); have n1_ := ak (below_weaken (by repeat ((with_reducible exact HB.out))) HL.out hb); have n2_ := ak (KeepBut.trans (by repeat ((with_reducible exact HK.out))) (KeepBut.of_grown hg g) (Kd.R_base2 HO_5.out)); have n3_ := ak (ho); clear HI0; clear HB; clear HK; clear HO_5; have HI0 := n0_; have HB := n1_; have HK := n2_; have HO231 := n3_; clear n0_ n1_ n2_ n3_; clear ho hb hg hat; refine hK.out _ _ ?_; clear hK K; refine norm_ (a' := ?_) ?_ ?_; rotate_left
      ·show Act.put _ (some 66) _ = _
       simp only [Act.put, sA, sZ, sS, i64_w, i32_w]
       rfl
      refine pq_ (i := 19) (N := some 5) #[Y,Y,Y,Y,Y,Y,Y,Y,Y,Y,Y,Y,Y,Y,Y,Y,Y,Y,Y,Y] HT_ ?_; refine done_ (done_of HT_.out (by kernel_rfl)) ?_; (try go_wp2); go_ret; exact ⟨_, by first | rfl | (simp [errW_none, errW_some] <;> rfl) | (fail) | (simp [*, errW_none, errW_some] <;> rfl), rq HO231, by repeat ((with_reducible exact HI0.out)), by repeat ((with_reducible exact HB.out)), by repeat ((with_reducible exact HK.out))⟩
     ·rw [if_neg c41] at H
      have c41b0 : (t214 == 1) = false := beq_eq_false_iff_ne.mpr c41; have c41b1 : (t214 != 1) = true := bne_iff_ne.mpr c41
      by_cases c50 : t214 = 2
      ·rw [if_pos c50] at H
       have c50b0 : (t214 == 2) = true := beq_iff_eq.mpr c50; have c50b1 : (t214 != 2) = false := bne_eq_false_iff_eq.mpr c50; clear c50
       revert H; refine ig_ fun c51 H => ?_
       have c51b0 := decide_eq_true c51; have c51b1 : decide (0 < x5_1.length) = true := decide_eq_true (by omega); clear c51
       revert H; refine ig_ fun c52 H => ?_
       have LMc52 := ak c52; clear c52; obtain ⟨y233, hy233⟩ : ∃ y_ : List (S37), y_ = (x5_1 ++ [(⟨(rd_T37 x5_1 0).f0, (rd_T37 x5_1 0).f1⟩ : S37)]) := ⟨_, rfl⟩
       replace H : (some (y233, t215, t216)) = some (r1, r2, r3) := by first | (rw [hy233]; with_reducible exact H) | (have H2_ := (Option.bind_some _ _).symm.trans H; rw [hy233]; with_reducible exact H2_) | (have H2_ := (Option.bind_some _ _).symm.trans H; with_reducible exact H2_) | with_reducible exact H | (rw [hy233]; exact H) | exact H
       have Ny233 := ak hy233; clear hy233; simp only [Option.some.injEq, Prod.mk.injEq] at H; obtain ⟨rfl, rfl, rfl⟩ := H; obtain ⟨Ao53, co53, eo53⟩ := Kd.R_slice HO_5.out; subst eo53
       go_wp2_with (first | ((with_reducible refine gate_callee (f := 71) rfl ?_); refine goesL_ (some 33) rfl rfl Tryz.func71 (by kernel_rfl) rfl #[.pointer (some ⟨g, 0, none⟩), .int .i64 50] rfl aq ?_; (with_reducible refine (spec_l1Cur_pick.calls g s0_0 x1001_1 x1002_1 50 t214 t215 t216 w0 _ ?side1 ?side2 A25.out).mono ?_); (case side1 => repeat ((with_reducible exact HI0.out))); (case side2 => repeat ((with_reducible exact HB.out))); rintro e w54 ⟨rfl, hi, hb, hk⟩; refine ⟨_, rfl, ?_⟩; have n0_ := ak (Kd.R_mono (Kd.R_keep (IsS56.apart (show IsS56 w0 _ g s0_0 x1001_1 x1002_1 from by repeat ((with_reducible exact HI0.out))) (rq HO_5) (by decide)) hk (fun _ h => h.2)) (fun _ h => h.1)); have n1_ := ak (KeepBut.trans (by repeat ((with_reducible exact HK.out))) hk (.inl rfl)); have n2_ := ak (hb); have n3_ := ak (hi); clear HO_5; clear HK; clear HB; clear HI0; have HO_5 := n0_; have HK := n1_; have HB := n2_; have HI0 := n3_; clear n0_ n1_ n2_ n3_; (try clear hb); (try clear hk); (try clear hi); have p232 : 0 ≤ (0 : Int) := (by omega); have q232 : 0 < (x5_1.length : Int) := dq; obtain ⟨ad232, e232, hx232_0, hx232_1⟩ := at_T37 (Kd.R_reads' HO_5.out).2.2 0 p232 q232; cases e232; have qi232 : (0 < x5_1.length) = True := eq_true (by omega); (try rw [show ((0 : Int)).toNat = 0 from rfl] at hx232_0); (try rw [show 0 * 2 = 0 from rfl] at hx232_0); (try rw [Addr.add_zero'] at hx232_0); (try rw [show ((0 : Int)).toNat = 0 from rfl] at hx232_1); (try rw [show 0 * 2 = 0 from rfl] at hx232_1); (try rw [Addr.add_zero'] at hx232_1); replace p232 := eq_true p232; replace q232 := eq_true q232) | ((with_reducible refine gate_builtin (b := .append) (xs := #[.tmp 69, .tmp 73]) rfl ?_); at_builtin; refine Kd.R_append k37 w.heap.size rfl (.tmp 69) (.tmp 73) 24 37 (.agg #[(.int .i64 0), (.int .i64 0)]) 16 rfl Tryz.underlying24 info37 rfl (by decide) (by omega) (.slice (some ad232) x5_1.length co53) x5_1 (⟨(rd_T37 x5_1 0).f0, (rd_T37 x5_1 0).f1⟩ : S37) [.int .i64 ((rd_T37 x5_1 0).f0), .int .i64 ((rd_T37 x5_1 0).f1)] (fun _ => True) (fun _ => False) rfl rfl ?aP (fun _ hk => hk.elim) ?aF ?aO (Below.refl _ _) ?aS ?aL ?_; (case aP => exact k37_mkM _ _ _ (⟨(rd_T37 x5_1 0).f0, (rd_T37 x5_1 0).f1⟩ : S37)); (case aF => exact (fun _ _ => trivial)); (case aO => exact (rq HO_5)); (case aS => exact (keep_size (w := w) (g := g) (row := none) (by repeat ((with_reducible exact HK.out))))); (case aL => have := LMc52.out; omega); intro v234 w55 ho hb hg hat; rw [← Ny233.out] at ho; have n0_ := ak (IsS56.grown (by repeat ((with_reducible exact HI0.out))) hg (IsS56.own_ne HI0.out HO_5.out (by decide))); have n1_ := ak (below_weaken (by repeat ((with_reducible exact HB.out))) HL.out hb); have n2_ := ak (KeepBut.trans (by repeat ((with_reducible exact HK.out))) (KeepBut.of_grown hg g) (Kd.R_base2 HO_5.out)); have n3_ := ak (ho); clear HI0; clear HB; clear HK; clear HO_5; have HI0 := n0_; have HB := n1_; have HK := n2_; have HO235 := n3_; clear n0_ n1_ n2_ n3_; clear ho hb hg hat))
       go_ret; exact ⟨_, eq_, rq HO235, by repeat ((with_reducible exact HI0.out)), by repeat ((with_reducible exact HB.out)), by repeat ((with_reducible exact HK.out))⟩
      ·rw [if_neg c50] at H
       have c50b0 : (t214 == 2) = false := beq_eq_false_iff_ne.mpr c50; have c50b1 : (t214 != 2) = true := bne_iff_ne.mpr c50
       by_cases c56 : t214 = 3
       ·rw [if_pos c56] at H
        have c56b0 : (t214 == 3) = true := beq_iff_eq.mpr c56; have c56b1 : (t214 != 3) = false := bne_eq_false_iff_eq.mpr c56; clear c56; obtain ⟨y236, hy236⟩ : ∃ y_ : List (S37), y_ = (([] : List (S37))) := ⟨_, rfl⟩
        replace H : (some (y236, t215, t216)) = some (r1, r2, r3) := by first | (rw [hy236]; with_reducible exact H) | (have H2_ := (Option.bind_some _ _).symm.trans H; rw [hy236]; with_reducible exact H2_) | (have H2_ := (Option.bind_some _ _).symm.trans H; with_reducible exact H2_) | with_reducible exact H | (rw [hy236]; exact H) | exact H
        have Ny236 := ak hy236; clear hy236; simp only [Option.some.injEq, Prod.mk.injEq] at H; obtain ⟨rfl, rfl, rfl⟩ := H; obtain ⟨Ao57, co57, eo57⟩ := Kd.R_slice HO_5.out; subst eo57
        go_wp2_with (first | ((with_reducible refine gate_callee (f := 71) rfl ?_); refine goesL_ (some 33) rfl rfl Tryz.func71 (by kernel_rfl) rfl #[.pointer (some ⟨g, 0, none⟩), .int .i64 50] rfl aq ?_; (with_reducible refine (spec_l1Cur_pick.calls g s0_0 x1001_1 x1002_1 50 t214 t215 t216 w0 _ ?side1 ?side2 A25.out).mono ?_); (case side1 => repeat ((with_reducible exact HI0.out))); (case side2 => repeat ((with_reducible exact HB.out))); rintro e w58 ⟨rfl, hi, hb, hk⟩; refine ⟨_, rfl, ?_⟩; have n0_ := ak (Kd.R_mono (Kd.R_keep (IsS56.apart (show IsS56 w0 _ g s0_0 x1001_1 x1002_1 from by repeat ((with_reducible exact HI0.out))) (rq HO_5) (by decide)) hk (fun _ h => h.2)) (fun _ h => h.1)); have n1_ := ak (KeepBut.trans (by repeat ((with_reducible exact HK.out))) hk (.inl rfl)); have n2_ := ak (hb); have n3_ := ak (hi); clear HO_5; clear HK; clear HB; clear HI0; have HO_5 := n0_; have HK := n1_; have HB := n2_; have HI0 := n3_; clear n0_ n1_ n2_ n3_; (try clear hb); (try clear hk); (try clear hi)) | ((with_reducible refine gate_dst (N := 77) rfl ?_); refine Kd.R_lit k37 _ 37 ?hg (N := 77) ?hd (xs := ([] : List (S37))) (inner := []) (ok := fun _ => True) (okp := fun _ => True) ?hr ?hp (fun _ hk => hk) trivial (Below.refl _ _) (Nat.le_refl _) (by simp) ?_; (case hd => rfl); (case hg => rfl); (case hr => (go_simp; done)); (case hp => exact (Reps.none _ _)); intro v237 w59 ho60 hb hg_ hnew_; clear hg_ hnew_; (rw [← Ny236.out] at ho60); have n0_ := ak (Kd.R_elder' (rq HO_5) (Kd.R_base ho60) hb); have n1_ := ak (Kd.R_lower (Kd.R_new' ho60 (Kd.R_lt (rq HO_5))) (keep_size (w := w) (g := g) (row := none) (by repeat ((with_reducible exact HK.out))))); have n2_ := ak (IsS56.below (by repeat ((with_reducible exact HI0.out))) hb); have n3_ := ak (KeepBut.trans (by repeat ((with_reducible exact HK.out))) (KeepBut.of_below hb g none) (.inl rfl)); have n4_ := ak (below_step (by repeat ((with_reducible exact HB.out))) hb); clear HO_5; clear HI0; clear HK; clear HB; have HO_5 := n0_; have HO238 := n1_; have HI0 := n2_; have HK := n3_; have HB := n4_; clear n0_ n1_ n2_ n3_ n4_; clear hb ho60))
        go_ret; exact ⟨_, eq_, by exact Kd.R_mono HO238.out (fun _ hk => trivial), by repeat ((with_reducible exact HI0.out)), by repeat ((with_reducible exact HB.out)), by repeat ((with_reducible exact HK.out))⟩
       ·rw [if_neg c56] at H
        have c56b0 : (t214 == 3) = false := beq_eq_false_iff_ne.mpr c56; have c56b1 : (t214 != 3) = true := bne_iff_ne.mpr c56
        by_cases c61 : t214 = 4
        ·rw [if_pos c61] at H
         have c61b0 : (t214 == 4) = true := beq_iff_eq.mpr c61; have c61b1 : (t214 != 4) = false := bne_eq_false_iff_eq.mpr c61; clear c61; have H' := ak H; clear H; obtain ⟨Ao62, co62, eo62⟩ := Kd.R_slice HO_5.out; subst eo62
         go_wp2_with (((with_reducible refine gate_callee (f := 71) rfl ?_); refine goesL_ (some 33) rfl rfl Tryz.func71 (by kernel_rfl) rfl #[.pointer (some ⟨g, 0, none⟩), .int .i64 50] rfl aq ?_; (with_reducible refine (spec_l1Cur_pick.calls g s0_0 x1001_1 x1002_1 50 t214 t215 t216 w0 _ ?side1 ?side2 A25.out).mono ?_); (case side1 => repeat ((with_reducible exact HI0.out))); (case side2 => repeat ((with_reducible exact HB.out))); rintro e w63 ⟨rfl, hi, hb, hk⟩; refine ⟨_, rfl, ?_⟩; have n0_ := ak (Kd.R_mono (Kd.R_keep (IsS56.apart (show IsS56 w0 _ g s0_0 x1001_1 x1002_1 from by repeat ((with_reducible exact HI0.out))) (rq HO_5) (by decide)) hk (fun _ h => h.2)) (fun _ h => h.1)); have n1_ := ak (KeepBut.trans (by repeat ((with_reducible exact HK.out))) hk (.inl rfl)); have n2_ := ak (hb); have n3_ := ak (hi); clear HO_5; clear HK; clear HB; clear HI0; have HO_5 := n0_; have HK := n1_; have HB := n2_; have HI0 := n3_; clear n0_ n1_ n2_ n3_; (try clear hb); (try clear hk); (try clear hi)))
         go_loopg [8] k1 (fun kq v8 w' => ∃ (x5_2 : List (S37)) (x8_2 : Int), v8 = .int .i64 x8_2 ∧ Aside0 (spec_l1Cur_body.l1 kq x5_2 x8_2 s0_0 t215 t216 = some (r1, r2, r3)) ∧ Aside0 (kq ≤ k1) ∧ Aside0 (Kd.R k37 37 w' w.heap.size (fun _ => True) (.slice Ao62 x5_1.length co62) x5_2) ∧ Aside0 (IsS56 w0 w' g s0_0 t215 t216) ∧ Aside0 (KeepBut w w' g none) ∧ Aside0 (Below w0.heap.size w0 w'))
         case atStart => exact ⟨(x5_1), (0), sq, H', ⟨Nat.le_refl _⟩, ⟨rq HO_5⟩, ⟨by repeat ((with_reducible exact HI0.out))⟩, ⟨by repeat ((with_reducible exact HK.out))⟩, ⟨by repeat ((with_reducible exact HB.out))⟩⟩
         case round =>
          clear H'; (try clear c11b0); (try clear c26); (try clear c26b0); (try clear c26b1); (try clear c41); (try clear c41b0); (try clear c41b1); (try clear c50); (try clear c50b0); (try clear c50b1); (try clear c56); (try clear c56b0); (try clear c56b1); (try clear c61b0); (try clear c61b1); obtain ⟨x5_2, x8_2, rfl, HA, HK2, HO_5, HI0, HK, HB⟩ := hrel; have hl5_2 := (Kd.R_reads' HO_5.out).1; rw [hl5_2] at HO_5
          (try simp only [hl5_2])
          cases gk with
          | zero => exact absurd HA.out (by simp [spec_l1Cur_body.l1])
          | succ k2 =>
           have H := HA.out; clear HA; simp only [spec_l1Cur_body.l1] at H
           by_cases c64 : x8_2 < (x5_2.length : Int)
           ·rw [if_pos c64] at H
            have c64b0 := decide_eq_true c64; clear c64
            revert H; refine ig_ fun c65 H => ?_
            have c65b0 := decide_eq_true c65; clear c65; obtain ⟨y241, hy241⟩ : ∃ y_ : List (S37), y_ = (x5_2.set (x8_2 : Int).toNat (⟨(rd_T37 x5_2 x8_2).f0, wrap64 (((rd_T37 x5_2 x8_2).f1) + 1)⟩ : S37)) := ⟨_, rfl⟩
            replace H : (spec_l1Cur_body.l1 k2 y241 (wrap64 (x8_2 + 1)) s0_0 t215 t216) = some (r1, r2, r3) := by first | (rw [hy241]; with_reducible exact H) | (have H2_ := (Option.bind_some _ _).symm.trans H; rw [hy241]; with_reducible exact H2_) | (have H2_ := (Option.bind_some _ _).symm.trans H; with_reducible exact H2_) | with_reducible exact H | (rw [hy241]; exact H) | exact H
            have Ny241 := ak hy241; clear hy241; have H' := ak H; clear H; (try go_wp2); have n0_ := ak (Kd.R_drew HO_5.out); have n1_ := ak (IsS56.drew HI0.out); have n2_ := ak (keep_drew HK.out); have n3_ := ak (below_drew1 HB.out); clear HO_5; clear HI0; clear HK; clear HB; have HO_5 := n0_; have HI0 := n1_; have HK := n2_; have HB := n3_; clear n0_ n1_ n2_ n3_; have p239 : 0 ≤ (x8_2 : Int) := dq; have q239 : x8_2 < (x5_2.length : Int) := dq; obtain ⟨ad239, e239, hx239_0, hx239_1⟩ := at_T37 (Kd.R_reads' HO_5.out).2.2 x8_2 p239 q239; cases e239; replace p239 := eq_true p239; replace q239 := eq_true q239; have p240 : 0 ≤ (x8_2 : Int) := dq; have q240 : x8_2 < (x5_2.length : Int) := dq; obtain ⟨ad240, e240, hx240_0, hx240_1⟩ := at_T37 (Kd.R_reads' HO_5.out).2.2 x8_2 p240 q240; obtain rfl : ad239 = ad240 := (by injection e240); replace p240 := eq_true p240; replace q240 := eq_true q240; have p66 : 0 ≤ (x8_2 : Int) := dq; have q66 : (x8_2 : Int) < ((x5_2.length : Int) : Int) := dq; obtain ⟨go66, co66, eo66, gb66, gl66, cl66, HG66⟩ := Kd.R_form HO_5.out (by omega)
            (first | cases eo66 | (injection eo66 with ea_ en_ ec_; (fail); subst ec_; clear en_))
            have GB66 := ak gb66; have GG66 := ak HG66; clear gb66 gl66 HG66
            (simp only [add_plain] at hx239_0)
            (simp only [add_plain] at hx239_1)
            (simp only [add_plain] at hx240_0)
            (simp only [add_plain] at hx240_1)
            obtain ⟨ce66, hcl66, hM66, hcc66, hfr66⟩ := Kd.R_elem HO_5.out z37 (x8_2 : Int) p66 q66; obtain rfl := k37_openM hM66; have hx66_0 : World.cell? _ ⟨go66, (x8_2 : Int).toNat * 2, none⟩ = some (.int .i64 ((rd_T37 x5_2 x8_2).f0)) := hcc66 0 _ rfl; have hx66_1 : World.cell? _ ⟨go66, (x8_2 : Int).toNat * 2 + 1, none⟩ = some (.int .i64 ((rd_T37 x5_2 x8_2).f1)) := hcc66 1 _ rfl; have hf66_0 : World.frozen? _ ⟨go66, (x8_2 : Int).toNat * 2, none⟩ = false := hfr66 0; have hf66_1 : World.frozen? _ ⟨go66, (x8_2 : Int).toNat * 2 + 1, none⟩ = false := hfr66 1; clear hcl66 hcc66 hfr66 hM66; replace p66 := eq_true p66; replace q66 := eq_true q66; have HN0_go66 := ak (show g ≠ go66 from by have h_ := IsS56.own_ne HI0.out HO_5.out (by decide); intro e_; exact h_ (by rw [e_]; rfl)); obtain ⟨ce68, hcl68, hM68, hcc68, hfr68⟩ := Kd.R_elem HO_5.out z37 (x8_2 : Int) (dq) (by have h_ : (x8_2 : Int) < ((x5_2.length : Int) : Int) := dq; exact h_); obtain rfl := k37_openM hM68; have HP68 := (Kd.R_seg HO_5.out (x8_2 : Int) (dq) (by have h_ : (x8_2 : Int) < ((x5_2.length : Int) : Int) := dq; exact h_) (seg := [.int .i64 ((rd_T37 x5_2 x8_2).f0), .int .i64 (wrap64 (((rd_T37 x5_2 x8_2).f1) + 1))]) (j := 0) hcl68 hcc68 (show 2 ≤ 2 from by decide) (x' := (⟨(rd_T37 x5_2 x8_2).f0, wrap64 (((rd_T37 x5_2 x8_2).f1) + 1)⟩ : S37)) (k37_mkM _ _ _ (⟨(rd_T37 x5_2 x8_2).f0, wrap64 (((rd_T37 x5_2 x8_2).f1) + 1)⟩ : S37) ) (fun _ hk => hk)).1; rw [← Ny241.out] at HP68; have HQ68 := ak HP68; clear hcl68 hcc68 hfr68 hM68 HP68; refine start_ (n := 16) (S := fun w' => w'.cell? ⟨go66, ((x8_2).toNat * 2), none⟩ = some (.int .i64 ((rd_T37 x5_2 x8_2).f0)) ∧ w'.cell? ⟨go66, ((x8_2).toNat * 2) + 1, none⟩ = some (.int .i64 ((rd_T37 x5_2 x8_2).f1)) ∧ w'.cell? ⟨go66, ((x8_2).toNat * 2), none⟩ = some (.int .i64 ((rd_T37 x5_2 x8_2).f0)) ∧ w'.cell? ⟨go66, ((x8_2).toNat * 2) + 1, none⟩ = some (.int .i64 ((rd_T37 x5_2 x8_2).f1))) (ds := [15]) #[Z,Z,Z,Z,Z,Z,Z,Z,Z,Z,Z,Z,Z,Z,Z,Z] (by kernel_rfl) rfl rfl ⟨hx239_0, hx239_1, hx240_0, hx240_1⟩ (fun hHeld => ?_); refine with_tabW spec_l1Cur_body.tab19 spec_l1Cur_body.bits19 (fun HT_ HW_ => ?_)
            generalize wr.drew = w67 at HO_5 HI0 HK HB GG66 HQ68 hf66_0 hf66_1 hx239_0 hx239_1 hx240_0 hx240_1 hx66_0 hx66_1 hHeld ⊢
            refine pq_ (i := 0) (N := some 86) #[Y,Z,Z,Z,Z,Z,Z,Z,Z,Z,Z,Z,Z,Z,Z,Z] HT_ ?_; refine pq_ (i := 1) (N := some 87) #[Y,Y,Z,Z,Z,Z,Z,Z,Z,Z,Z,Z,Z,Z,Z,Z] HT_ ?_; refine pq_ (i := 2) (N := some 88) #[Y,Y,Y,Z,Z,Z,Z,Z,Z,Z,Z,Z,Z,Z,Z,Z] HT_ ?_; refine pq_ (i := 3) (N := some 89) #[Y,Y,Y,Y,Z,Z,Z,Z,Z,Z,Z,Z,Z,Z,Z,Z] HT_ ?_; refine pq_ (i := 4) (N := some 90) #[Y,Y,Y,Y,Y,Z,Z,Z,Z,Z,Z,Z,Z,Z,Z,Z] HT_ ?_; refine pq_ (i := 5) (N := some 91) #[Y,Y,Y,Y,Y,Y,Z,Z,Z,Z,Z,Z,Z,Z,Z,Z] HT_ ?_; refine pq_ (i := 7) (N := some 93) #[Y,Y,Y,Y,Y,Y,Z,Y,Z,Z,Z,Z,Z,Z,Z,Z] HT_ ?_; refine pq_ (i := 8) (N := some 94) #[Y,Y,Y,Y,Y,Y,Z,Y,Y,Z,Z,Z,Z,Z,Z,Z] HT_ ?_; refine pq_ (i := 9) (N := some 95) #[Y,Y,Y,Y,Y,Y,Z,Y,Y,Y,Z,Z,Z,Z,Z,Z] HT_ ?_; refine pq_ (i := 10) (N := some 96) #[Y,Y,Y,Y,Y,Y,Z,Y,Y,Y,Y,Z,Z,Z,Z,Z] HT_ ?_; refine tk_ (i := 6) (N := some 92) #[Y,Y,Y,Y,Y,Y,Y,Y,Y,Y,Y,Z,Z,Z,Z,Z] HT_ HW_ hHeld ?_; refine tk_ (i := 11) (N := some 97) #[Y,Y,Y,Y,Y,Y,Y,Y,Y,Y,Y,Y,Z,Z,Z,Z] HT_ HW_ hHeld ?_; refine pq_ (i := 12) (N := some 98) #[Y,Y,Y,Y,Y,Y,Y,Y,Y,Y,Y,Y,Y,Z,Z,Z] HT_ ?_; refine pq_ (i := 13) (N := some 99) #[Y,Y,Y,Y,Y,Y,Y,Y,Y,Y,Y,Y,Y,Y,Z,Z] HT_ ?_; refine pq_ (i := 14) (N := some 100) #[Y,Y,Y,Y,Y,Y,Y,Y,Y,Y,Y,Y,Y,Y,Y,Z] HT_ ?_; refine last_ (i := 15) (N := none) #[Y,Y,Y,Y,Y,Y,Y,Y,Y,Y,Y,Y,Y,Y,Y,Y] rfl rfl (one_of HT_.out (by kernel_rfl)) (by decide) (fun K hK => ?_); refine skip_ (w1 := ?_) (by rfl) rfl ?_ ?_; rotate_left
            ·go_simp
             rfl
            refine hK.out _ _ ?_; clear hK K; refine done_ (done_of HT_.out (by kernel_rfl)) ?_; (try go_wp2)
            (try simp only [← hl5_2])
            go_roundg k2
            case measure => have := HK1.out; have := HK2.out; omega
            case rel => exact ⟨(y241), (wrap64 (x8_2 + 1)), sq, H', ⟨by have := HK1.out; have := HK2.out; omega⟩, ⟨by (try simp only [hl5_2]); exact HQ68.out⟩, ⟨by repeat ((with_reducible first | exact HI0.out | refine IsS56.far ?_ HN0_go66.out _))⟩, ⟨by repeat ((with_reducible first | exact HK.out | refine keep_far ?_ GB66.out _))⟩, ⟨by repeat ((with_reducible first | exact HB.out | refine below_set ?_ (Nat.le_trans HL.out GB66.out)))⟩⟩
           ·rw [if_neg c64] at H
            have c64b0 := decide_eq_false c64; clear c64; simp only [Option.some.injEq, Prod.mk.injEq] at H; obtain ⟨rfl, rfl, rfl⟩ := H; go_wp2; go_ret; exact ⟨_, eq_, rq HO_5, by repeat ((with_reducible exact HI0.out)), by repeat ((with_reducible exact HB.out)), by repeat ((with_reducible exact HK.out))⟩
        ·rw [if_neg c61] at H
         have c61b0 : (t214 == 4) = false := beq_eq_false_iff_ne.mpr c61; have c61b1 : (t214 != 4) = true := bne_iff_ne.mpr c61; simp only [Option.some.injEq, Prod.mk.injEq] at H; obtain ⟨rfl, rfl, rfl⟩ := H; obtain ⟨Ao69, co69, eo69⟩ := Kd.R_slice HO_5.out; subst eo69
         go_wp2_with (((with_reducible refine gate_callee (f := 71) rfl ?_); refine goesL_ (some 33) rfl rfl Tryz.func71 (by kernel_rfl) rfl #[.pointer (some ⟨g, 0, none⟩), .int .i64 50] rfl aq ?_; (with_reducible refine (spec_l1Cur_pick.calls g s0_0 x1001_1 x1002_1 50 t214 t215 t216 w0 _ ?side1 ?side2 A25.out).mono ?_); (case side1 => repeat ((with_reducible exact HI0.out))); (case side2 => repeat ((with_reducible exact HB.out))); rintro e w70 ⟨rfl, hi, hb, hk⟩; refine ⟨_, rfl, ?_⟩; have n0_ := ak (Kd.R_mono (Kd.R_keep (IsS56.apart (show IsS56 w0 _ g s0_0 x1001_1 x1002_1 from by repeat ((with_reducible exact HI0.out))) (rq HO_5) (by decide)) hk (fun _ h => h.2)) (fun _ h => h.1)); have n1_ := ak (KeepBut.trans (by repeat ((with_reducible exact HK.out))) hk (.inl rfl)); have n2_ := ak (hb); have n3_ := ak (hi); clear HO_5; clear HK; clear HB; clear HI0; have HO_5 := n0_; have HK := n1_; have HB := n2_; have HI0 := n3_; clear n0_ n1_ n2_ n3_; (try clear hb); (try clear hk); (try clear hi)))
         go_ret; exact ⟨_, eq_, rq HO_5, by repeat ((with_reducible exact HI0.out)), by repeat ((with_reducible exact HB.out)), by repeat ((with_reducible exact HK.out))⟩
/-! ### spec_DrawIsBody: function 22 -/
def spec_DrawIsBody.f (k : Nat) (l0 : List Int) : Option ((List (S37))) := (spec_l1Cur_body.f k l0 0 0 12).bind fun bt243 => (some bt243.1)
theorem spec_DrawIsBody.calls (k : Nat) (A0 : Option Addr) (c0 : Nat) (l0 : List Int) (r : List (S37)) (w : World) (hr0 : Kd.C (Kd.int .u8) w A0 l0.length l0) (hc0 : l0.length ≤ c0) (h : spec_DrawIsBody.f k l0 = some r) :
  Calls Tryz.prog 22 #[.slice A0 l0.length c0] w fun e w' => ∃ v0_ : Value, e = .returned (v0_) ∧ Kd.R k37 37 w' w.heap.size (fun _ => True) v0_ r ∧ Below w.heap.size w w' := by
 have hu56 := Tryz.underlying56; have HR0 := ak hr0; have HC0 := ak hc0; clear hr0 hc0; have HB := ak (Below.refl w.heap.size w); have H : ((spec_l1Cur_body.f k l0 0 0 12).bind fun bt243 => (some bt243.1)) = some r := h; clear h; obtain ⟨⟨t243, t246, t247⟩, A20, H⟩ := Option.bind_eq_some_iff.mp H
 (try dsimp only at H)
 have A2 := ak A20; clear A20; obtain rfl := Option.some.inj H
 go_enter Tryz.func22, Tryz.ntmps22
 go_wp2_with (first | ((with_reducible refine gate_dst (N := 6) rfl ?_); refine box_event ?hg (N := 6) ?hd (cs := #[.slice A0 l0.length c0, .int .i64 0, .int .u64 0]) (t := 56) ?hr ?_; (case hd => rfl); (case hg => rfl); (case hr => (go_simp; done)); intro gb242 hg w3 hbox hb; have n0_ := ak (below_step bq hb); have n1_ := ak ((by rw [hg]; exact (below_size bq) : w.heap.size ≤ gb242)); have n2_ := ak ((by rw [hg]; exact (below_size bq) : w.heap.size ≤ gb242)); have n3_ := ak ((show IsS56 w _ gb242 l0 0 0 from ⟨_, _, hbox, (by rw [hg]; exact (below_size bq) : w.heap.size ≤ gb242), (HR0.out)⟩)); clear HB; have HB := n0_; have GW242 := n1_; have GE242 := n2_; have HI242 := n3_; clear n0_ n1_ n2_ n3_; clear hb hbox hg) | ((with_reducible refine gate_callee (f := 51) rfl ?_); refine goesL_ (some 8) rfl rfl Tryz.func51 (by kernel_rfl) rfl #[.pointer (some ⟨gb242, 0, none⟩), .int .i64 12] rfl aq ?_; (with_reducible refine (spec_l1Cur_body.calls k gb242 l0 0 0 12 t243 t246 t247 w _ ?side1 ?side2 A2.out).mono ?_); (case side1 => repeat ((with_reducible exact HI242.out))); (case side2 => repeat ((with_reducible exact HB.out))); rintro e w4 ⟨v244, rfl, ho0, hi, hb, hk⟩; refine ⟨_, rfl, ?_⟩; have n0_ := ak (Kd.R_lower ho0 (below_size (by repeat ((with_reducible exact HB.out))))); have n1_ := ak (hb); have n2_ := ak (hi); clear HB; clear HI242; have HO245 := n0_; have HB := n1_; have HI242 := n2_; clear n0_ n1_ n2_; (try clear hb); (try clear hk); (try clear hi); (try clear ho0)))
 go_ret; exact ⟨_, eq_, rq HO245, by repeat ((with_reducible exact HB.out))⟩
/-! ### spec_DrawLooseCells: function 5 -/
def spec_DrawLooseCells.f (k : Nat) (l0 : List Int) : Option ((List (S37))) := (spec_DrawIsBody.f k l0).bind fun t248 => (some t248)
theorem spec_DrawLooseCells.calls (k : Nat) (A0 : Option Addr) (c0 : Nat) (l0 : List Int) (r : List (S37)) (w : World) (hr0 : Kd.C (Kd.int .u8) w A0 l0.length l0) (hc0 : l0.length ≤ c0) (h : spec_DrawLooseCells.f k l0 = some r) :
  Calls Tryz.prog 5 #[.slice A0 l0.length c0] w fun e w' => ∃ v0_ : Value, e = .returned (v0_) ∧ Kd.R k37 37 w' w.heap.size (fun _ => True) v0_ r ∧ Below w.heap.size w w' := by
 have HR0 := ak hr0; have HC0 := ak hc0; clear hr0 hc0; have HB := ak (Below.refl w.heap.size w); have H : ((spec_DrawIsBody.f k l0).bind fun t248 => (some t248)) = some r := h; clear h; obtain ⟨t248, A20, H⟩ := Option.bind_eq_some_iff.mp H
 have A2 := ak A20; clear A20; obtain rfl := Option.some.inj H
 go_enter Tryz.func5, Tryz.ntmps5
 go_wp2_with (((with_reducible refine gate_callee (f := 22) rfl ?_); refine goesL_ (some 4) rfl rfl Tryz.func22 (by kernel_rfl) rfl #[.slice A0 l0.length c0] rfl aq ?_; (with_reducible refine (spec_DrawIsBody.calls k _ _ l0 t248 _ ?side1 ?side2 A2.out).mono ?_); (case side1 => exact cq HR0.out); (case side2 => exact HC0.out); rintro e w3 ⟨v249, rfl, ho0, hb⟩; refine ⟨_, rfl, ?_⟩; have n0_ := ak (Kd.R_lower ho0 (below_size bq)); have n1_ := ak (below_step bq hb); clear HB; have HO250 := n0_; have HB := n1_; clear n0_ n1_; (try clear hb); (try clear ho0)))
 go_ret; exact ⟨_, eq_, rq HO250, bq⟩
/-! ### impl_within: function 26 -/
def impl_within.f (a0 : Int) (a1 : Int) (a2 : Int) : Option (Bool) := if a0 ≥ a1 then (some (decide (a0 ≤ a2))) else (some false)
theorem impl_within.calls (a0 : Int) (a1 : Int) (a2 : Int) (r : Bool) (w : World) (h : impl_within.f a0 a1 a2 = some r) :
  Calls Tryz.prog 26 #[.int .i64 a0, .int .i64 a1, .int .i64 a2] w fun e w' => e = .returned (.bool r) ∧ Drawn0 w w' := by
 have H : (if a0 ≥ a1 then (some (decide (a0 ≤ a2))) else (some false)) = some r := h; clear h
 by_cases c4 : a0 ≥ a1
 ·rw [if_pos c4] at H
  have c4b0 : decide (a1 ≤ a0) = true := decide_eq_true c4; clear c4; obtain rfl := Option.some.inj H
  go_enter Tryz.func26, Tryz.ntmps26
  go_wp2; go_ret; exact ⟨sq, by repeat (exact Drawn0.refl _)⟩
 ·rw [if_neg c4] at H
  have c4b0 : decide (a1 ≤ a0) = false := decide_eq_false c4; clear c4; obtain rfl := Option.some.inj H
  go_enter Tryz.func26, Tryz.ntmps26
  go_wp2; go_ret; exact ⟨sq, by repeat (exact Drawn0.refl _)⟩
/-! ### cmp_isNaN: function 90 -/
def cmp_isNaN.f (a0 : Int) : Option (Bool) := some (a0 != a0)
theorem cmp_isNaN.calls (a0 : Int) (r : Bool) (w : World) (h : cmp_isNaN.f a0 = some r) :
  Calls Tryz.prog 90 #[.int .i64 a0] w fun e w' => e = .returned (.bool r) ∧ Drawn0 w w' := by
 have H : (some (a0 != a0)) = some r := h; clear h; obtain rfl := Option.some.inj H
 go_enter Tryz.func90, Tryz.ntmps90
 go_wp2; go_ret; exact ⟨sq, by repeat (exact Drawn0.refl _)⟩
/-! ### cmp_Compare: function 75 -/
def cmp_Compare.f (a0 : Int) (a1 : Int) : Option (Int) := (cmp_isNaN.f a0).bind fun t251 => ((cmp_isNaN.f a1).bind fun t252 => (if t251 = true then (if t252 = true then (some 0) else (some (-1))) else (if t252 = true then (some 1) else (if a0 < a1 then (some (-1)) else (if a0 > a1 then (some 1) else (some 0))))))
theorem cmp_Compare.calls (a0 : Int) (a1 : Int) (r : Int) (w : World) (h : cmp_Compare.f a0 a1 = some r) :
  Calls Tryz.prog 75 #[.int .i64 a0, .int .i64 a1] w fun e w' => e = .returned (.int .i64 r) ∧ Drawn0 w w' := by
 have H : ((cmp_isNaN.f a0).bind fun t251 => ((cmp_isNaN.f a1).bind fun t252 => (if t251 = true then (if t252 = true then (some 0) else (some (-1))) else (if t252 = true then (some 1) else (if a0 < a1 then (some (-1)) else (if a0 > a1 then (some 1) else (some 0))))))) = some r := h; clear h; obtain ⟨t251, A30, H⟩ := Option.bind_eq_some_iff.mp H
 have A3 := ak A30; clear A30; obtain ⟨t252, A40, H⟩ := Option.bind_eq_some_iff.mp H
 have A4 := ak A40; clear A40
 by_cases c5 : t251 = true
 ·subst c5
  rw [if_pos rfl] at H
  by_cases c6 : t252 = true
  ·subst c6
   rw [if_pos rfl] at H; obtain rfl := Option.some.inj H
   go_enter Tryz.func75, Tryz.ntmps75
   go_wp2_with (first | ((with_reducible refine gate_callee (f := 90) rfl ?_); refine goesL_ (some 8) rfl rfl Tryz.func90 (by kernel_rfl) rfl #[.int .i64 a0] rfl aq ?_; (with_reducible refine (cmp_isNaN.calls a0 true _ A3.out).mono ?_); rintro e w' ⟨rfl, ⟨nd, rfl⟩⟩; refine ⟨_, rfl, ?_⟩) | ((with_reducible refine gate_callee (f := 90) rfl ?_); refine goesL_ (some 10) rfl rfl Tryz.func90 (by kernel_rfl) rfl #[.int .i64 a1] rfl aq ?_; (with_reducible refine (cmp_isNaN.calls a1 true _ A4.out).mono ?_); rintro e w' ⟨rfl, ⟨nd, rfl⟩⟩; refine ⟨_, rfl, ?_⟩))
   go_ret; exact ⟨sq, by repeat (first | exact Drawn0.refl _ | apply Drawn0.step)⟩
  ·replace c6 := Bool.eq_false_iff.mpr c6
   subst c6; rw [if_neg (show ¬ (false = true) by decide)] at H; obtain rfl := Option.some.inj H
   go_enter Tryz.func75, Tryz.ntmps75
   go_wp2_with (first | ((with_reducible refine gate_callee (f := 90) rfl ?_); refine goesL_ (some 8) rfl rfl Tryz.func90 (by kernel_rfl) rfl #[.int .i64 a0] rfl aq ?_; (with_reducible refine (cmp_isNaN.calls a0 true _ A3.out).mono ?_); rintro e w' ⟨rfl, ⟨nd, rfl⟩⟩; refine ⟨_, rfl, ?_⟩) | ((with_reducible refine gate_callee (f := 90) rfl ?_); refine goesL_ (some 10) rfl rfl Tryz.func90 (by kernel_rfl) rfl #[.int .i64 a1] rfl aq ?_; (with_reducible refine (cmp_isNaN.calls a1 false _ A4.out).mono ?_); rintro e w' ⟨rfl, ⟨nd, rfl⟩⟩; refine ⟨_, rfl, ?_⟩))
   go_ret; exact ⟨sq, by repeat (first | exact Drawn0.refl _ | apply Drawn0.step)⟩
 ·replace c5 := Bool.eq_false_iff.mpr c5
  subst c5; rw [if_neg (show ¬ (false = true) by decide)] at H
  by_cases c7 : t252 = true
  ·subst c7
   rw [if_pos rfl] at H; obtain rfl := Option.some.inj H
   go_enter Tryz.func75, Tryz.ntmps75
   go_wp2_with (first | ((with_reducible refine gate_callee (f := 90) rfl ?_); refine goesL_ (some 8) rfl rfl Tryz.func90 (by kernel_rfl) rfl #[.int .i64 a0] rfl aq ?_; (with_reducible refine (cmp_isNaN.calls a0 false _ A3.out).mono ?_); rintro e w' ⟨rfl, ⟨nd, rfl⟩⟩; refine ⟨_, rfl, ?_⟩) | ((with_reducible refine gate_callee (f := 90) rfl ?_); refine goesL_ (some 10) rfl rfl Tryz.func90 (by kernel_rfl) rfl #[.int .i64 a1] rfl aq ?_; (with_reducible refine (cmp_isNaN.calls a1 true _ A4.out).mono ?_); rintro e w' ⟨rfl, ⟨nd, rfl⟩⟩; refine ⟨_, rfl, ?_⟩))
   go_ret; exact ⟨sq, by repeat (first | exact Drawn0.refl _ | apply Drawn0.step)⟩
  ·replace c7 := Bool.eq_false_iff.mpr c7
   subst c7; rw [if_neg (show ¬ (false = true) by decide)] at H
   by_cases c8 : a0 < a1
   ·rw [if_pos c8] at H
    have c8b0 := decide_eq_true c8; clear c8; obtain rfl := Option.some.inj H
    go_enter Tryz.func75, Tryz.ntmps75
    go_wp2_with (first | ((with_reducible refine gate_callee (f := 90) rfl ?_); refine goesL_ (some 8) rfl rfl Tryz.func90 (by kernel_rfl) rfl #[.int .i64 a0] rfl aq ?_; (with_reducible refine (cmp_isNaN.calls a0 false _ A3.out).mono ?_); rintro e w' ⟨rfl, ⟨nd, rfl⟩⟩; refine ⟨_, rfl, ?_⟩) | ((with_reducible refine gate_callee (f := 90) rfl ?_); refine goesL_ (some 10) rfl rfl Tryz.func90 (by kernel_rfl) rfl #[.int .i64 a1] rfl aq ?_; (with_reducible refine (cmp_isNaN.calls a1 false _ A4.out).mono ?_); rintro e w' ⟨rfl, ⟨nd, rfl⟩⟩; refine ⟨_, rfl, ?_⟩))
    go_ret; exact ⟨sq, by repeat (first | exact Drawn0.refl _ | apply Drawn0.step)⟩
   ·rw [if_neg c8] at H
    have c8b0 := decide_eq_false c8; clear c8
    by_cases c9 : a0 > a1
    ·rw [if_pos c9] at H
     have c9b0 : decide (a1 < a0) = true := decide_eq_true c9; clear c9; obtain rfl := Option.some.inj H
     go_enter Tryz.func75, Tryz.ntmps75
     go_wp2_with (first | ((with_reducible refine gate_callee (f := 90) rfl ?_); refine goesL_ (some 8) rfl rfl Tryz.func90 (by kernel_rfl) rfl #[.int .i64 a0] rfl aq ?_; (with_reducible refine (cmp_isNaN.calls a0 false _ A3.out).mono ?_); rintro e w' ⟨rfl, ⟨nd, rfl⟩⟩; refine ⟨_, rfl, ?_⟩) | ((with_reducible refine gate_callee (f := 90) rfl ?_); refine goesL_ (some 10) rfl rfl Tryz.func90 (by kernel_rfl) rfl #[.int .i64 a1] rfl aq ?_; (with_reducible refine (cmp_isNaN.calls a1 false _ A4.out).mono ?_); rintro e w' ⟨rfl, ⟨nd, rfl⟩⟩; refine ⟨_, rfl, ?_⟩))
     go_ret; exact ⟨sq, by repeat (first | exact Drawn0.refl _ | apply Drawn0.step)⟩
    ·rw [if_neg c9] at H
     have c9b0 : decide (a1 < a0) = false := decide_eq_false c9; clear c9; obtain rfl := Option.some.inj H
     go_enter Tryz.func75, Tryz.ntmps75
     go_wp2_with (first | ((with_reducible refine gate_callee (f := 90) rfl ?_); refine goesL_ (some 8) rfl rfl Tryz.func90 (by kernel_rfl) rfl #[.int .i64 a0] rfl aq ?_; (with_reducible refine (cmp_isNaN.calls a0 false _ A3.out).mono ?_); rintro e w' ⟨rfl, ⟨nd, rfl⟩⟩; refine ⟨_, rfl, ?_⟩) | ((with_reducible refine gate_callee (f := 90) rfl ?_); refine goesL_ (some 10) rfl rfl Tryz.func90 (by kernel_rfl) rfl #[.int .i64 a1] rfl aq ?_; (with_reducible refine (cmp_isNaN.calls a1 false _ A4.out).mono ?_); rintro e w' ⟨rfl, ⟨nd, rfl⟩⟩; refine ⟨_, rfl, ?_⟩))
     go_ret; exact ⟨sq, by repeat (first | exact Drawn0.refl _ | apply Drawn0.step)⟩
/-! ### slices_Compare: function 58 -/
def slices_Compare.l0 : Nat → List Int → List Int → List Int → Int → Int → Option (Int)
 | 0, _, _, _, _, _ => none
 | k + 1, x0, x1, x9, x10, x11 => if x11 < x10 then (if 0 ≤ x11 then (if x11 < (x9.length : Int) then (if x11 ≥ (x1.length : Int) then (some 1) else (if x11 < (x1.length : Int) then ((cmp_Compare.f (rd x9 x11) (rd x1 x11)).bind fun t255 => (if t255 = 0 then (slices_Compare.l0 k x0 x1 x9 x10 (wrap64 (x11 + 1))) else (some t255))) else (none))) else (none)) else (none)) else (if (x0.length : Int) < (x1.length : Int) then (some (-1)) else (some 0))
def slices_Compare.f (k : Nat) (l0 : List Int) (l1 : List Int) : Option (Int) := slices_Compare.l0 k l0 l1 l0 (l0.length : Int) 0
theorem slices_Compare.mono_l : ∀ k, (∀ y0 y1 y2 y3 y4, LeO (slices_Compare.l0 k y0 y1 y2 y3 y4) (slices_Compare.l0 (k + 1) y0 y1 y2 y3 y4))
 | 0 => fun _ _ _ _ _ r h => by simp [slices_Compare.l0] at h
 | k + 1 => by
  have ih0 := slices_Compare.mono_l k
  ·intro y0 y1 y2 y3 y4
   unfold slices_Compare.l0
   repeat' first
   | (with_reducible exact ih0 _ _ _ _ _)
   | (with_reducible exact LeO.refl _)
   | (with_reducible exact LeO.none _)
   | (with_reducible refine LeO.ite ?_ ?_)
   | (with_reducible refine LeO.bind ?_ (fun _ => ?_))
theorem slices_Compare.mono : ∀ a0 a1 k, LeO (slices_Compare.f k a0 a1) (slices_Compare.f (k + 1) a0 a1) := by
 intro a0 a1 k; have ih0 := slices_Compare.mono_l k
 unfold slices_Compare.f
 repeat' first
   | (with_reducible exact ih0 _ _ _ _ _)
   | (with_reducible exact LeO.refl _)
   | (with_reducible exact LeO.none _)
   | (with_reducible refine LeO.ite ?_ ?_)
   | (with_reducible refine LeO.bind ?_ (fun _ => ?_))
theorem slices_Compare.calls (k : Nat) (A0 : Option Addr) (c0 : Nat) (l0 : List Int) (A1 : Option Addr) (c1 : Nat) (l1 : List Int) (r : Int) (w : World) (hr0 : Kd.C (Kd.int .i64) w A0 l0.length l0) (hc0 : l0.length ≤ c0) (hr1 : Kd.C (Kd.int .i64) w A1 l1.length l1) (hc1 : l1.length ≤ c1) (h : slices_Compare.f k l0 l1 = some r) :
  Calls Tryz.prog 58 #[.slice A0 l0.length c0, .slice A1 l1.length c1] w fun e w' => e = .returned (.int .i64 r) ∧ Drawn0 w w' := by
 have HR0 := ak hr0; have HC0 := ak hc0; clear hr0 hc0; have HR1 := ak hr1; have HC1 := ak hc1; clear hr1 hc1; have H : (slices_Compare.l0 k l0 l1 l0 (l0.length : Int) 0) = some r := h; clear h; have H' := ak H; clear H
 go_enter Tryz.func58, Tryz.ntmps58
 go_wp2
 go_loopg [11] k (fun kq v11 w' => ∃ (x11_1 : Int), v11 = .int .i64 x11_1 ∧ Aside0 (slices_Compare.l0 kq l0 l1 l0 (l0.length : Int) x11_1 = some r) ∧ Aside0 (kq ≤ k) ∧ Drawn0 w w')
 case atStart => exact ⟨(0), sq, H', ⟨Nat.le_refl _⟩, by repeat (exact Drawn0.refl _)⟩
 case round =>
  clear H'; obtain ⟨x11_1, rfl, HA, HK1, ⟨m1, rfl⟩⟩ := hrel
  cases gk with
  | zero => exact absurd HA.out (by simp [slices_Compare.l0])
  | succ k1 =>
   have H := HA.out; clear HA; simp only [slices_Compare.l0] at H
   by_cases c3 : x11_1 < (l0.length : Int)
   ·rw [if_pos c3] at H
    have c3b0 := decide_eq_true c3; clear c3
    revert H; refine ig_ fun c4 H => ?_
    have c4b0 := decide_eq_true c4; clear c4
    revert H; refine ig_ fun c5 H => ?_
    have c5b0 := decide_eq_true c5; clear c5
    by_cases c6 : x11_1 ≥ (l1.length : Int)
    ·rw [if_pos c6] at H
     have c6b0 : decide ((l1.length : Int) ≤ x11_1) = true := decide_eq_true c6; clear c6; obtain rfl := Option.some.inj H; have p253 : 0 ≤ (x11_1 : Int) := dq; have q253 : x11_1 < (l0.length : Int) := dq; obtain ⟨ad253, e253, hx253_0⟩ := Kd.at_int HR0.out x11_1 p253 q253; cases e253; replace p253 := eq_true p253; replace q253 := eq_true q253; go_wp2; go_ret; exact ⟨sq, by repeat (first | exact Drawn0.refl _ | apply Drawn0.step)⟩
    ·rw [if_neg c6] at H
     have c6b0 : decide ((l1.length : Int) ≤ x11_1) = false := decide_eq_false c6; clear c6
     revert H; refine ig_ fun c7 H => ?_
     have c7b0 := decide_eq_true c7; clear c7; obtain ⟨t255, A80, H⟩ := Option.bind_eq_some_iff.mp H
     have A8 := ak A80; clear A80
     by_cases c9 : t255 = 0
     ·rw [if_pos c9] at H
      have c9b0 : (t255 == 0) = true := beq_iff_eq.mpr c9; have c9b1 : (t255 != 0) = false := bne_eq_false_iff_eq.mpr c9; clear c9; have H' := ak H; clear H; have p253 : 0 ≤ (x11_1 : Int) := dq; have q253 : x11_1 < (l0.length : Int) := dq; obtain ⟨ad253, e253, hx253_0⟩ := Kd.at_int HR0.out x11_1 p253 q253; cases e253; replace p253 := eq_true p253; replace q253 := eq_true q253; have p254 : 0 ≤ (x11_1 : Int) := dq; have q254 : x11_1 < (l1.length : Int) := dq; obtain ⟨ad254, e254, hx254_0⟩ := Kd.at_int HR1.out x11_1 p254 q254; cases e254; replace p254 := eq_true p254; replace q254 := eq_true q254
      go_wp2_with (((with_reducible refine gate_callee (f := 75) rfl ?_); refine goesL_ (some 26) rfl rfl Tryz.func75 (by kernel_rfl) rfl #[.int .i64 (rd l0 x11_1), .int .i64 (rd l1 x11_1)] rfl aq ?_; (with_reducible refine (cmp_Compare.calls (rd l0 x11_1) (rd l1 x11_1) t255 _ A8.out).mono ?_); rintro e w' ⟨rfl, ⟨nd, rfl⟩⟩; refine ⟨_, rfl, ?_⟩))
      go_roundg k1
      case measure => have := HK1.out; omega
      case rel => exact ⟨(wrap64 (x11_1 + 1)), sq, H', ⟨by have := HK1.out; omega⟩, by repeat (first | exact Drawn0.refl _ | apply Drawn0.step)⟩
     ·rw [if_neg c9] at H
      have c9b0 : (t255 == 0) = false := beq_eq_false_iff_ne.mpr c9; have c9b1 : (t255 != 0) = true := bne_iff_ne.mpr c9; obtain rfl := Option.some.inj H; have p253 : 0 ≤ (x11_1 : Int) := dq; have q253 : x11_1 < (l0.length : Int) := dq; obtain ⟨ad253, e253, hx253_0⟩ := Kd.at_int HR0.out x11_1 p253 q253; cases e253; replace p253 := eq_true p253; replace q253 := eq_true q253; have p254 : 0 ≤ (x11_1 : Int) := dq; have q254 : x11_1 < (l1.length : Int) := dq; obtain ⟨ad254, e254, hx254_0⟩ := Kd.at_int HR1.out x11_1 p254 q254; cases e254; replace p254 := eq_true p254; replace q254 := eq_true q254
      go_wp2_with (((with_reducible refine gate_callee (f := 75) rfl ?_); refine goesL_ (some 26) rfl rfl Tryz.func75 (by kernel_rfl) rfl #[.int .i64 (rd l0 x11_1), .int .i64 (rd l1 x11_1)] rfl aq ?_; (with_reducible refine (cmp_Compare.calls (rd l0 x11_1) (rd l1 x11_1) t255 _ A8.out).mono ?_); rintro e w' ⟨rfl, ⟨nd, rfl⟩⟩; refine ⟨_, rfl, ?_⟩))
      go_ret; exact ⟨sq, by repeat (first | exact Drawn0.refl _ | apply Drawn0.step)⟩
   ·rw [if_neg c3] at H
    have c3b0 := decide_eq_false c3; clear c3
    by_cases c10 : (l0.length : Int) < (l1.length : Int)
    ·rw [if_pos c10] at H
     have c10b0 := decide_eq_true c10; have c10b1 : decide (l0.length < l1.length) = true := decide_eq_true (Int.ofNat_lt.mp c10); clear c10; obtain rfl := Option.some.inj H; go_wp2; go_ret; exact ⟨sq, by repeat (first | exact Drawn0.refl _ | apply Drawn0.step)⟩
    ·rw [if_neg c10] at H
     have c10b0 := decide_eq_false c10; have c10b1 : decide (l0.length < l1.length) = false := decide_eq_false (fun h => c10 (Int.ofNat_lt.mpr h)); clear c10; obtain rfl := Option.some.inj H; go_wp2; go_ret; exact ⟨sq, by repeat (first | exact Drawn0.refl _ | apply Drawn0.step)⟩
/-! ### impl_compareCells: function 27, by hand -/
def impl_compareCells.f (k : Nat) (a0_0 a0_1 a1_0 a1_1 : Int) : Option (Int) := slices_Compare.f k [a0_0, a0_1] [a1_0, a1_1]
theorem impl_compareCells.mono : ∀ a0 a1 a2 a3 k, LeO (impl_compareCells.f k a0 a1 a2 a3) (impl_compareCells.f (k + 1) a0 a1 a2 a3) := fun a0 a1 a2 a3 k => slices_Compare.mono _ _ _
theorem impl_compareCells.calls (k : Nat) (a0_0 a0_1 a1_0 a1_1 r : Int) (w : World) (h : impl_compareCells.f k a0_0 a0_1 a1_0 a1_1 = some r) :
  Calls Tryz.prog 27 #[.agg #[.int .i64 a0_0, .int .i64 a0_1], .agg #[.int .i64 a1_0, .int .i64 a1_1]] w fun e w' => e = .returned (.int .i64 r) ∧ Below w.heap.size w w' := by
 obtain ⟨W2, hW2⟩ : ∃ W2, W2 = ((w.alloc (Obj.cells #[Value.int IntKind.i64 a0_0, Value.int IntKind.i64 a0_1] 37)).alloc (Obj.cells #[Value.int IntKind.i64 a1_0, Value.int IntKind.i64 a1_1] 37)) := ⟨_, rfl⟩
 have g0 : W2.heap[w.heap.size]? = some (Obj.cells #[Value.int IntKind.i64 a0_0, Value.int IntKind.i64 a0_1] 37) := by
  rw [hW2, heap_alloc_old]
  ·exact heap_alloc_new w _
  ·show w.heap.size < (w.heap.push _).size
   simp
 have g1 : W2.heap[w.heap.size + 1]? = some (Obj.cells #[Value.int IntKind.i64 a1_0, Value.int IntKind.i64 a1_1] 37) := by
  rw [hW2]; exact heap_alloc2_new w _ _
 have hB : Below w.heap.size w W2 := by
  rw [hW2]; repeat (first | exact Below.refl _ _ | apply below_alloc)
 have hC0 : Kd.C (Kd.int .i64) W2 (some ⟨w.heap.size, 0, none⟩) ([a0_0, a0_1] : List Int).length [a0_0, a0_1] := Kd.C_of_reads (enc := Value.int .i64) (d := 0) (h1 := fun _ => rfl) ⟨rfl, (by show 2 ≤ 9223372036854775807; omega), fun _ => ⟨_, rfl, fun j hj => by
  rcases (show j = 0 ∨ j = 1 by simp at hj; omega) with rfl | rfl
  ·simp [World.cell?, Addr.add, g0]
  ·simp [World.cell?, Addr.add, g0]⟩⟩
 have hC1 : Kd.C (Kd.int .i64) W2 (some ⟨w.heap.size + 1, 0, none⟩) ([a1_0, a1_1] : List Int).length [a1_0, a1_1] := Kd.C_of_reads (enc := Value.int .i64) (d := 0) (h1 := fun _ => rfl) ⟨rfl, (by show 2 ≤ 9223372036854775807; omega), fun _ => ⟨_, rfl, fun j hj => by
  rcases (show j = 0 ∨ j = 1 by simp at hj; omega) with rfl | rfl
  ·simp [World.cell?, Addr.add, g1]
  ·simp [World.cell?, Addr.add, g1]⟩⟩
 have hcall : ∀ n : Nat, Calls Tryz.prog 58 #[.slice (some ⟨w.heap.size, 0, none⟩) 2 2, .slice (some ⟨w.heap.size + 1, 0, none⟩) 2 2] (W2.drewN n) fun e w' => e = .returned (.int .i64 r) ∧ Drawn0 (W2.drewN n) w' := fun n => slices_Compare.calls k _ _ [a0_0, a0_1] _ _ [a1_0, a1_1] r _ (Kd.C_drewN hC0 n) (Nat.le_refl 2) (Kd.C_drewN hC1 n) (Nat.le_refl 2) h
 subst hW2
 go_enter Tryz.func27, Tryz.ntmps27
 go_wp2
 go_quiet ((go_at_call 58; refine (hcall _).mono ?_; rintro e w' ⟨rfl, ⟨nd, rfl⟩⟩; (try exact ⟨rfl, _, World.drewN_drewN _ _ _⟩)))
 go_wp2; go_ret; exact ⟨rfl, by repeat (first | exact hB | apply pw_below_drewN)⟩
/-! ### impl_leastOf: function 28 -/
def impl_leastOf.l0 : Nat → List (S37) → Int → Int → Int → Int → Option (Int × Int)
 | 0, _, _, _, _, _ => none
 | k + 1, x9, x10, x11, x259000, x259001 => if x11 < x10 then (if 0 ≤ x11 then (if x11 < (x9.length : Int) then (impl_leastOf.l0 k x9 x10 (wrap64 (x11 + 1)) (mn x259000 ((rd_T37 x9 x11).f0)) (mn x259001 ((rd_T37 x9 x11).f1))) else (none)) else (none)) else (some (x259000, x259001))
def impl_leastOf.f (k : Nat) (l0 : List (S37)) : Option (Int × Int) := if 0 < (l0.length : Int) then (impl_leastOf.l0 k l0 (l0.length : Int) 0 ((rd_T37 l0 0).f0) ((rd_T37 l0 0).f1)) else (none)
theorem impl_leastOf.calls (k : Nat) (A0 : Option Addr) (c0 : Nat) (l0 : List (S37)) (r1 : Int) (r2 : Int) (w : World) (hr0 : Kd.C k37 w A0 l0.length l0) (hc0 : l0.length ≤ c0) (h : impl_leastOf.f k l0 = some (r1, r2)) :
  Calls Tryz.prog 28 #[.slice A0 l0.length c0] w fun e w' => e = .returned (.agg #[.int .i64 r1, .int .i64 r2]) ∧ Below w.heap.size w w' := by
 have hu37 := Tryz.underlying37; have HR0 := ak hr0; have HC0 := ak hc0; clear hr0 hc0; have HB := ak (Below.refl w.heap.size w); have H : (if 0 < (l0.length : Int) then (impl_leastOf.l0 k l0 (l0.length : Int) 0 ((rd_T37 l0 0).f0) ((rd_T37 l0 0).f1)) else (none)) = some (r1, r2) := h; clear h
 revert H; refine ig_ fun c2 H => ?_
 have c2b0 := decide_eq_true c2; have c2b1 : decide (0 < l0.length) = true := decide_eq_true (by omega); clear c2; have H' := ak H; clear H
 go_enter Tryz.func28, Tryz.ntmps28
 go_wp2_with (first | ((with_reducible refine gate_dst (N := 2) rfl ?_); refine box_event ?hg (N := 2) ?hd (cs := #[.int .i64 0, .int .i64 0]) (t := 37) ?hr ?_; (case hd => rfl); (case hg => rfl); (case hr => (go_simp; done)); intro gb256 hg w3 hbox hb; have n0_ := ak (below_step bq hb); have n1_ := ak (hbox); have n2_ := ak ((by rw [hg]; exact (below_size bq) : w.heap.size ≤ gb256)); have n3_ := ak ((by rw [hg]; exact (below_size bq) : w.heap.size ≤ gb256)); clear HB; have HB := n0_; have BK256 := n1_; have GW256 := n2_; have GE256 := n3_; clear n0_ n1_ n2_ n3_; clear hb hbox hg; have p257 : 0 ≤ (0 : Int) := (by omega); have q257 : 0 < (l0.length : Int) := dq; obtain ⟨ad257, e257, hx257_0, hx257_1⟩ := at_T37 HR0.out 0 p257 q257; cases e257; have qi257 : (0 < l0.length) = True := eq_true (by omega); (try rw [show ((0 : Int)).toNat = 0 from rfl] at hx257_0); (try rw [show 0 * 2 = 0 from rfl] at hx257_0); (try rw [Addr.add_zero'] at hx257_0); (try rw [show ((0 : Int)).toNat = 0 from rfl] at hx257_1); (try rw [show 0 * 2 = 0 from rfl] at hx257_1); (try rw [Addr.add_zero'] at hx257_1); replace hx257_0 := hb_ HB hx257_0; replace hx257_1 := hb_ HB hx257_1; replace p257 := eq_true p257; replace q257 := eq_true q257) | ((with_reducible refine gate_dst (N := 3) rfl ?_); refine box_event ?hg (N := 3) ?hd (cs := #[.int .i64 0, .int .i64 0]) (t := 37) ?hr ?_; (case hd => rfl); (case hg => rfl); (case hr => (go_simp; done)); intro gb258 hg w4 hbox hb; have n0_ := ak (blk_below (g := gb256) (o := .cells #[.int .i64 0, .int .i64 0] 37 (0, 0)) (uq BK256) hb); have n1_ := ak (below_step bs hb); have n2_ := ak (hbox); have n3_ := ak ((by rw [hg]; exact (below_size bs) : w.heap.size ≤ gb258)); have n4_ := ak ((by rw [hg]; exact (below_size bs) : w.heap.size ≤ gb258)); have n5_ := ak ((by rw [hg]; exact Nat.ne_of_lt (blk_lt (g := gb256) (o := .cells #[.int .i64 0, .int .i64 0] 37 (0, 0)) (uq BK256)) : gb256 ≠ gb258)); have n6_ := ak ((by rw [hg]; exact Nat.ne_of_gt (blk_lt (g := gb256) (o := .cells #[.int .i64 0, .int .i64 0] 37 (0, 0)) (uq BK256)) : gb258 ≠ gb256)); clear BK256; clear HB; have BK256 := n0_; have HB := n1_; have BK258 := n2_; have GW258 := n3_; have GE258 := n4_; have NB256_258 := n5_; have NB258_256 := n6_; clear n0_ n1_ n2_ n3_ n4_ n5_ n6_; clear hb hbox hg; have hnb5 := NB258_256.out; have hnc5 := NB256_258.out; have hcz6_0 : w4.cell? ⟨gb258, 0, none⟩ = some (.int .i64 0) := (blk_cell BK258.out 0).trans rfl; have hcz6_1 : w4.cell? ⟨gb258, 1, none⟩ = some (.int .i64 0) := (blk_cell BK258.out 1).trans rfl; have hfz6_0 := blk_frozen BK258.out 0; have hfz6_1 := blk_frozen BK258.out 1))
 go_loopg [11] k (fun kq v11 w' => ∃ (x11_1 : Int) (x259000_1 : Int) (x259001_1 : Int), v11 = .int .i64 x11_1 ∧ Aside0 (impl_leastOf.l0 kq l0 (l0.length : Int) x11_1 x259000_1 x259001_1 = some (r1, r2)) ∧ Aside0 (kq ≤ k) ∧ Aside0 (w'.heap[gb256]? = some (.cells #[.int .i64 0, .int .i64 0] 37 (0, 0))) ∧ Aside0 (w'.heap[gb258]? = some (.cells #[.int .i64 x259000_1, .int .i64 x259001_1] 37 (0, 0))) ∧ Aside0 (Below w.heap.size w w'))
 case atStart => exact ⟨(0), ((rd_T37 l0 0).f0), ((rd_T37 l0 0).f1), sq, H', ⟨Nat.le_refl _⟩, ⟨by refine blk_far ?_ NB256_258.out _; refine blk_far ?_ NB256_258.out _; exact BK256.out⟩, ⟨by refine blk_put (cs := #[.int .i64 ((rd_T37 l0 0).f0), .int .i64 0]) ?_ 1 _ rfl; refine blk_put (cs := #[.int .i64 0, .int .i64 0]) ?_ 0 _ rfl; exact BK258.out⟩, ⟨bs⟩⟩
 case round =>
  clear H'; (try clear c2b0); (try clear c2b1); (try clear hcz6_0); (try clear hcz6_1); (try clear hfz6_0); (try clear hfz6_1); (try clear hx257_0); (try clear hx257_1); (try clear p257); (try clear q257); obtain ⟨x11_1, x259000_1, x259001_1, rfl, HA, HK1, BK256, BK258, HB⟩ := hrel
  cases gk with
  | zero => exact absurd HA.out (by simp [impl_leastOf.l0])
  | succ k1 =>
   have H := HA.out; clear HA; simp only [impl_leastOf.l0] at H
   by_cases c7 : x11_1 < (l0.length : Int)
   ·rw [if_pos c7] at H
    have c7b0 := decide_eq_true c7; clear c7
    revert H; refine ig_ fun c8 H => ?_
    have c8b0 := decide_eq_true c8; clear c8
    revert H; refine ig_ fun c9 H => ?_
    have c9b0 := decide_eq_true c9; clear c9; obtain ⟨ji10, hji10⟩ : ∃ j_ : Int, (mn x259000_1 ((rd_T37 l0 x11_1).f0)) = j_ := ⟨_, rfl⟩
    (rw [hji10] at H)
    have hji10_ : (if ((rd_T37 l0 x11_1).f0) < x259000_1 then ((rd_T37 l0 x11_1).f0) else x259000_1) = ji10 := hji10; obtain ⟨ji11, hji11⟩ : ∃ j_ : Int, (mn x259001_1 ((rd_T37 l0 x11_1).f1)) = j_ := ⟨_, rfl⟩
    (rw [hji11] at H)
    have hji11_ : (if ((rd_T37 l0 x11_1).f1) < x259001_1 then ((rd_T37 l0 x11_1).f1) else x259001_1) = ji11 := hji11; have H' := ak H; clear H; have p259 : 0 ≤ (x11_1 : Int) := dq; have q259 : x11_1 < (l0.length : Int) := dq; obtain ⟨ad259, e259, hx259_0, hx259_1⟩ := at_T37 HR0.out x11_1 p259 q259; obtain rfl : ad257 = ad259 := (by injection e259); replace hx259_0 := hb_ HB hx259_0; replace hx259_1 := hb_ HB hx259_1; replace p259 := eq_true p259; replace q259 := eq_true q259
    go_wp2_with (((with_reducible refine gate_dst (N := 5) rfl ?_); refine box_event ?hg (N := 5) ?hd (cs := #[.int .i64 0, .int .i64 0]) (t := 37) ?hr ?_; (case hd => rfl); (case hg => rfl); (case hr => (go_simp; done)); intro gb260 hg w12 hbox hb; have n0_ := ak (blk_below (g := gb256) (o := .cells #[.int .i64 0, .int .i64 0] 37 (0, 0)) (uq BK256) hb); have n1_ := ak (blk_below (g := gb258) (o := .cells #[.int .i64 x259000_1, .int .i64 x259001_1] 37 (0, 0)) (uq BK258) hb); have n2_ := ak (below_step bs hb); have n3_ := ak (hbox); have n4_ := ak ((by rw [hg]; exact (below_size bs) : w.heap.size ≤ gb260)); have n5_ := ak ((by rw [hg]; exact (below_size bs) : w.heap.size ≤ gb260)); have n6_ := ak ((by rw [hg]; exact Nat.ne_of_lt (blk_lt (g := gb256) (o := .cells #[.int .i64 0, .int .i64 0] 37 (0, 0)) (uq BK256)) : gb256 ≠ gb260)); have n7_ := ak ((by rw [hg]; exact Nat.ne_of_gt (blk_lt (g := gb256) (o := .cells #[.int .i64 0, .int .i64 0] 37 (0, 0)) (uq BK256)) : gb260 ≠ gb256)); have n8_ := ak ((by rw [hg]; exact Nat.ne_of_lt (blk_lt (g := gb258) (o := .cells #[.int .i64 x259000_1, .int .i64 x259001_1] 37 (0, 0)) (uq BK258)) : gb258 ≠ gb260)); have n9_ := ak ((by rw [hg]; exact Nat.ne_of_gt (blk_lt (g := gb258) (o := .cells #[.int .i64 x259000_1, .int .i64 x259001_1] 37 (0, 0)) (uq BK258)) : gb260 ≠ gb258)); clear BK256; clear BK258; clear HB; have BK256 := n0_; have BK258 := n1_; have HB := n2_; have BK260 := n3_; have GW260 := n4_; have GE260 := n5_; have NB256_260 := n6_; have NB260_256 := n7_; have NB258_260 := n8_; have NB260_258 := n9_; clear n0_ n1_ n2_ n3_ n4_ n5_ n6_ n7_ n8_ n9_; clear hb hbox hg; have hnb13 := NB260_256.out; have hnc13 := NB256_260.out; have hnb14 := NB260_258.out; have hnc14 := NB258_260.out; have hcz15_0 : w12.cell? ⟨gb260, 0, none⟩ = some (.int .i64 0) := (blk_cell BK260.out 0).trans rfl; have hcz15_1 : w12.cell? ⟨gb260, 1, none⟩ = some (.int .i64 0) := (blk_cell BK260.out 1).trans rfl; have hfz15_0 := blk_frozen BK260.out 0; have hfz15_1 := blk_frozen BK260.out 1; have hnb16 := NB258_256.out; have hnc16 := NB256_258.out; have hcz17_0 : w12.cell? ⟨gb258, 0, none⟩ = some (.int .i64 x259000_1) := (blk_cell BK258.out 0).trans rfl; have hcz17_1 : w12.cell? ⟨gb258, 1, none⟩ = some (.int .i64 x259001_1) := (blk_cell BK258.out 1).trans rfl; have hfz17_0 := blk_frozen BK258.out 0; have hfz17_1 := blk_frozen BK258.out 1))
    go_roundg k1
    case measure => have := HK1.out; omega
    case rel => exact ⟨(wrap64 (x11_1 + 1)), (ji10), (ji11), sq, H', ⟨by have := HK1.out; omega⟩, ⟨by refine blk_far ?_ NB256_258.out _; refine blk_far ?_ NB256_258.out _; refine blk_far ?_ NB256_260.out _; refine blk_far ?_ NB256_260.out _; exact BK256.out⟩, ⟨by refine blk_put (cs := #[.int .i64 ji10, .int .i64 x259001_1]) ?_ 1 _ rfl; refine blk_put (cs := #[.int .i64 x259000_1, .int .i64 x259001_1]) ?_ 0 _ rfl; refine blk_far ?_ NB258_260.out _; refine blk_far ?_ NB258_260.out _; exact BK258.out⟩, ⟨bs⟩⟩
   ·rw [if_neg c7] at H
    have c7b0 := decide_eq_false c7; clear c7; simp only [Option.some.injEq, Prod.mk.injEq] at H; obtain ⟨rfl, rfl⟩ := H; have hnb18 := NB258_256.out; have hnc18 := NB256_258.out; have hcz19_0 : wr.cell? ⟨gb258, 0, none⟩ = some (.int .i64 x259000_1) := (blk_cell BK258.out 0).trans rfl; have hcz19_1 : wr.cell? ⟨gb258, 1, none⟩ = some (.int .i64 x259001_1) := (blk_cell BK258.out 1).trans rfl; have hfz19_0 := blk_frozen BK258.out 0; have hfz19_1 := blk_frozen BK258.out 1; have hcz20_0 : wr.cell? ⟨gb256, 0, none⟩ = some (.int .i64 0) := (blk_cell BK256.out 0).trans rfl; have hcz20_1 : wr.cell? ⟨gb256, 1, none⟩ = some (.int .i64 0) := (blk_cell BK256.out 1).trans rfl; have hfz20_0 := blk_frozen BK256.out 0; have hfz20_1 := blk_frozen BK256.out 1; go_wp2; refine bodyPost_ret (results_cell_row rfl _ _ gb256 37 #[.int .i64 x259000_1, .int .i64 x259001_1] (0, 0) _ rfl (by refine blk_put (cs := #[.int .i64 x259000_1, .int .i64 0]) ?_ 1 _ rfl; refine blk_put (cs := #[.int .i64 0, .int .i64 0]) ?_ 0 _ rfl; exact BK256.out) Tryz.underlying37 rfl (by kernel_rfl)) rfl ?_; exact ⟨eq_, bs⟩
end Go.Proofs.YtckhmeadflafaaaGreat.XFc
