/- Functions of the program as plain Lean functions, each with the proof that the machine's call does what it says: written by a program of this session out of the translation. -/
import Derived.Test.YtckhmeadflafaaaGreatXFcx0
import Derived.Test.YtckhmeadflafaaaGreatXFcx1
import Derived.Test.YtckhmeadflafaaaGreatXFcx2
import Derived.Lib.SliceRun
import Derived.Deep.RegionLaw
import Derived.Lib.Hide
import Derived.Shelf.SlSortCmp.WholeK
import Derived.Sort.AssemblyPlain
import Derived.Test.YtckhmeadflafaaaGreatSortLay
namespace Go.Proofs.YtckhmeadflafaaaGreat.XFc
open Go.RowKit Go.Proofs.YtckhmeadflafaaaGreatW.PrintWords Go.Proofs.YtckhmeadflafaaaGreatW.PrintLast Go.Proofs.YtckhmeadflafaaaGreatW.PrintMore
attribute [local go_sem] max2_int min2_int max_two min_two max_three min_three max_four min_four   -- for this text's walks alone
set_option linter.unusedVariables false
set_option linter.unusedSimpArgs false
set_option maxHeartbeats 8000000
set_option maxRecDepth 100000
/-! ### impl_hangs: function 29 -/
mutual
def impl_hangs.l0 : Nat → List (S37) → List Bool → List Int → Int → Option (Bool)
 | 0, _, _, _, _ => none
 | k + 1, x0, x3, x4, x5 => if (x4.length : Int) > 0 then (if 0 < (x4.length : Int) then (if 0 ≤ (rd x4 0) then (if (rd x4 0) < (x0.length : Int) then (if 1 ≤ (x4.length : Int) then (impl_hangs.l1 k x0 x3 (x4.drop (1 : Int).toNat) (wrap64 (x5 + 1)) x0 (x0.length : Int) 0 ((rd_T37 x0 (rd x4 0)).f0) ((rd_T37 x0 (rd x4 0)).f1)) else (none)) else (none)) else (none)) else (none)) else (some (x5 == (x0.length : Int)))
def impl_hangs.l1 : Nat → List (S37) → List Bool → List Int → Int → List (S37) → Int → Int → Int → Int → Option (Bool)
 | 0, _, _, _, _, _, _, _, _, _ => none
 | k + 1, x0, x3, x4, x5, x30, x31, x32, x271000, x271001 => if x32 < x31 then (if 0 ≤ x32 then (if x32 < (x30.length : Int) then (if x32 < (x3.length : Int) then (if rdOf false x3 x32 = true then (impl_hangs.l1 k x0 x3 x4 x5 x30 x31 (wrap64 (x32 + 1)) x271000 x271001) else (if (wrap64 ((wrap64 ((wrap64 (x271000 - ((rd_T37 x30 x32).f0))) * (wrap64 (x271000 - ((rd_T37 x30 x32).f0))))) + (wrap64 ((wrap64 (x271001 - ((rd_T37 x30 x32).f1))) * (wrap64 (x271001 - ((rd_T37 x30 x32).f1))))))) = 1 then (if x4.length < 17592186044416 then (impl_hangs.l1 k x0 (x3.set (x32 : Int).toNat true) (x4 ++ [x32]) x5 x30 x31 (wrap64 (x32 + 1)) x271000 x271001) else (none)) else (impl_hangs.l1 k x0 x3 x4 x5 x30 x31 (wrap64 (x32 + 1)) x271000 x271001))) else (none)) else (none)) else (none)) else (impl_hangs.l0 k x0 x3 x4 x5)
end
def impl_hangs.f (k : Nat) (l0 : List (S37)) : Option (Bool) := if 0 ≤ (l0.length : Int) then (if ((l0.length : Int) : Int).toNat ≤ 281474976710656 then ((some (List.replicate ((l0.length : Int) : Int).toNat false : List Bool)).bind fun y261 => (if 0 < (y261.length : Int) then (impl_hangs.l0 k l0 (y261.set (0 : Int).toNat true) (([0] : List Int)) 0) else (none))) else (none)) else (none)
def impl_hangs.T11 : Bool × List (List Nat × List Nat) := (true, [([], []), ([0], [0]), ([], []), ([2], [2]), ([1, 3], [1, 3]), ([], []), ([5], [5]), ([], []), ([7], [7]), ([6, 8], [6, 8]), ([4, 0, 1, 2, 3, 4], [4]), ([9, 10, 0, 1, 2, 3, 4, 5, 6, 7, 8, 9, 10], [9])])
def impl_hangs.B11 : List Nat := [0, 1, 0, 4, 15, 0, 32, 0, 128, 480, 31, 2047]
theorem impl_hangs.tab11 : rtab .any (opsOf Tryz.f29 11) = impl_hangs.T11 := by kernel_rfl
theorem impl_hangs.bits11 : waitsOk impl_hangs.T11.2 impl_hangs.B11 = true := by kernel_rfl
theorem impl_hangs.calls (k : Nat) (A0 : Option Addr) (c0 : Nat) (l0 : List (S37)) (r : Bool) (w : World) (hr0 : Kd.C k37 w A0 l0.length l0) (hc0 : l0.length ≤ c0) (h : impl_hangs.f k l0 = some r) :
  Calls Tryz.prog 29 #[.slice A0 l0.length c0] w fun e w' => e = .returned (.bool r) ∧ Below w.heap.size w w' := by
 have hu37 := Tryz.underlying37; have HR0 := ak hr0; have HC0 := ak hc0; clear hr0 hc0; have HB := ak (Below.refl w.heap.size w); have H : (if 0 ≤ (l0.length : Int) then (if ((l0.length : Int) : Int).toNat ≤ 281474976710656 then ((some (List.replicate ((l0.length : Int) : Int).toNat false : List Bool)).bind fun y261 => (if 0 < (y261.length : Int) then (impl_hangs.l0 k l0 (y261.set (0 : Int).toNat true) (([0] : List Int)) 0) else (none))) else (none)) else (none)) = some r := h; clear h
 revert H; refine ig_ fun c2 H => ?_
 have c2b0 := eq_true c2; have c2b1 := decide_eq_true c2; clear c2
 revert H; refine ig_ fun c3 H => ?_
 have c3b0 := eq_true c3; have c3b1 := decide_eq_true c3; clear c3; obtain ⟨y261, hy261⟩ : ∃ y_ : List Bool, y_ = (List.replicate ((l0.length : Int) : Int).toNat false) := ⟨_, rfl⟩
 replace H : (if 0 < (y261.length : Int) then (impl_hangs.l0 k l0 (y261.set (0 : Int).toNat true) (([0] : List Int)) 0) else (none)) = some r := by first | (rw [hy261]; with_reducible exact H) | (have H2_ := (Option.bind_some _ _).symm.trans H; rw [hy261]; with_reducible exact H2_) | (have H2_ := (Option.bind_some _ _).symm.trans H; with_reducible exact H2_) | with_reducible exact H | (rw [hy261]; exact H) | exact H
 have Ny261 := ak hy261; clear hy261; obtain ⟨y264, hy264⟩ : ∃ y_ : List Int, y_ = (([0] : List Int)) := ⟨_, rfl⟩
 replace H : (if 0 < (y261.length : Int) then (impl_hangs.l0 k l0 (y261.set (0 : Int).toNat true) y264 0) else (none)) = some r := by first | (rw [hy264]; with_reducible exact H) | (have H2_ := (Option.bind_some _ _).symm.trans H; rw [hy264]; with_reducible exact H2_) | (have H2_ := (Option.bind_some _ _).symm.trans H; with_reducible exact H2_) | with_reducible exact H | (rw [hy264]; exact H) | exact H
 have Ny264 := ak hy264; clear hy264
 revert H; refine ig_ fun c4 H => ?_
 have c4b0 := decide_eq_true c4; have c4b1 : decide (0 < y261.length) = true := decide_eq_true (by omega); clear c4; obtain ⟨y267, hy267⟩ : ∃ y_ : List Bool, y_ = (y261.set (0 : Int).toNat true) := ⟨_, rfl⟩
 replace H : (impl_hangs.l0 k l0 y267 y264 0) = some r := by first | (rw [hy267]; with_reducible exact H) | (have H2_ := (Option.bind_some _ _).symm.trans H; rw [hy267]; with_reducible exact H2_) | (have H2_ := (Option.bind_some _ _).symm.trans H; with_reducible exact H2_) | with_reducible exact H | (rw [hy267]; exact H) | exact H
 have Ny267 := ak hy267; clear hy267; have H' := ak H; clear H
 go_enter Tryz.func29, Tryz.ntmps29
 go_wp2_with (first | ((with_reducible refine gate_dst (N := 13) rfl ?_); refine Kd.R_make Kd.bool _ 4 rfl (N := 13) rfl 70 _ _ rfl (l0.length : Int) rfl rfl Tryz.underlying70 (.bool false) 1 info4 rfl (by decide) (by omega) false (ok := fun _ => True) (okp := fun _ => True) rfl (fun _ hk => hk) trivial (dq) (Nat.le_trans (Nat.mul_le_mul_right _ (dq : (l0.length : Int).toNat ≤ 281474976710656)) (by omega)) (Below.refl _ _) (Nat.le_refl _) ?_; intro v262 w6 ho7 hb hg_ hnew_; clear hg_ hnew_; (rw [← Ny261.out] at ho7); have n0_ := ak (Kd.R_lower ho7 (below_size bq)); have n1_ := ak (below_step bq hb); clear HB; have HO263 := n0_; have HB := n1_; clear n0_ n1_; clear hb ho7) | ((with_reducible refine gate_dst (N := 14) rfl ?_); refine Kd.R_lit (Kd.int .i64) _ 3 ?hg (N := 14) ?hd (xs := ([0] : List Int)) (inner := [.int .i64 0]) (ok := fun _ => True) (okp := fun _ => True) ?hr ?hp (fun _ hk => hk) trivial (Below.refl _ _) (Nat.le_refl _) (by simp) ?_; (case hd => rfl); (case hg => rfl); (case hr => (go_simp; done)); (case hp => exact (Reps.one (show Kd.M (Kd.int .i64) _ _ _ 0 [.int .i64 0] from rfl) (Reps.none _ _))); intro v265 w8 ho9 hb hg_ hnew_; clear hg_ hnew_; (rw [← Ny264.out] at ho9); have n0_ := ak (Kd.R_below (rq HO263) hb); have n1_ := ak (Kd.R_lower ho9 (below_size bq)); have n2_ := ak (below_step bq hb); clear HO263; clear HB; have HO263 := n0_; have HO266 := n1_; have HB := n2_; clear n0_ n1_ n2_; clear hb ho9; have p5 : 0 ≤ (0 : Int) := (by omega); have q5 : (0 : Int) < ((y261.length : Int) : Int) := dq; have qi5 : (0 < y261.length) = True := eq_true (by omega); obtain ⟨go5, co5, eo5, gb5, gl5, cl5, HG5⟩ := Kd.R_form HO263.out (by omega); (first | cases eo5 | (injection eo5 with ea_ en_ ec_; (fail); subst ec_; clear en_)); have GB5 := ak gb5; have GG5 := ak HG5; clear gb5 gl5 HG5; obtain ⟨hx5_0, hf5_0⟩ := Kd.R_celln false HO263.out (0 : Int) p5 q5; (try rw [show ((0 : Int)).toNat = 0 from rfl] at hx5_0); (try rw [show ((0 : Int)).toNat = 0 from rfl] at hf5_0); replace p5 := eq_true p5; replace q5 := eq_true q5; obtain ⟨hy10_, hz10_⟩ := Kd.R_celln false HO263.out (0 : Int) (by omega) (dq); (try rw [show ((0 : Int)).toNat = 0 from rfl] at hy10_); (try rw [show ((0 : Int)).toNat = 0 from rfl] at hz10_); have HP10 := Kd.R_putg HO263.out (0 : Int) true) | ((with_reducible refine gate_store (t := 4) (p := 16) rfl ?_); refine store_event (t := 4) (p := 16) (v := ?vo_w11) (w1 := (w8.setCell ⟨go5, (0 : Int).toNat, none⟩ (.bool true))) ?hg ?ho ?hn ?hr ?_; (case ho => rfl); (case hg => rfl); (case hn => rfl); (case hr => (go_simp; done)); intro w11 hw; have hg : w8.grownBy w11 (some go5) := (by rw [hw]; exact HP10.2); have hp_ : Kd.R Kd.bool 4 w11 w.heap.size (fun _ => True) (.slice (some ⟨go5, 0, none⟩) y261.length co5) y267 := (by rw [hw, Ny267.out]; exact HP10.1); clear HP10; have n0_ := ak (hp_); have n1_ := ak (Kd.R_over' (v := (.slice (some ⟨go5, 0, none⟩) y261.length co5)) (rq HO266) (Kd.R_typed HO263.out) (by decide) hg); have n2_ := ak ((by rw [hw]; exact below_set (HB.out) GB5.out : Below w.heap.size w w11)); clear HO263; clear HO266; clear HB; have HO263 := n0_; have HO266 := n1_; have HB := n2_; clear n0_ n1_ n2_; clear hg hw hp_))
 go_loopg [4, 5] k (fun kq v4 v5 w' => ∃ (x3_1 : List Bool) (x4_1 : List Int) (x5_1 : Int), v5 = .int .i64 x5_1 ∧ Aside0 (impl_hangs.l0 kq l0 x3_1 x4_1 x5_1 = some r) ∧ Aside0 (kq ≤ k) ∧ Aside0 (Kd.R Kd.bool 4 w' w.heap.size (fun _ => True) (.slice (some ⟨go5, 0, none⟩) y261.length co5) x3_1) ∧ Aside0 (Kd.Q (Kd.int .i64) 3 w' w.heap.size (fun _ => True) v4 x4_1) ∧ Aside0 (Below w.heap.size w w'))
 case atStart => exact ⟨(y267), (y264), (0), sq, H', ⟨Nat.le_refl _⟩, ⟨rq HO263⟩, ⟨Kd.Q_of_R (rq HO266)⟩, ⟨bq⟩⟩
 case round =>
  clear H'; (try clear c2b0); (try clear c2b1); (try clear c3b0); (try clear c3b1); (try clear c4b0); (try clear c4b1); (try clear p5); (try clear q5); (try clear qi5); (try clear hx5_0); obtain ⟨x3_1, x4_1, x5_1, rfl, HA, HK1, HO_3, HO_4, HB⟩ := hrel; have hl3_1 := (Kd.R_reads' HO_3.out).1; rw [hl3_1] at HO_3
  (try simp only [hl3_1])
  cases gk with
  | zero => exact absurd HA.out (by simp [impl_hangs.l0])
  | succ k1 =>
   have H := HA.out; clear HA; simp only [impl_hangs.l0] at H
   by_cases c12 : (x4_1.length : Int) > 0
   ·rw [if_pos c12] at H
    have c12b0 : decide (0 < (x4_1.length : Int)) = true := decide_eq_true c12; have c12b1 : decide (0 < x4_1.length) = true := decide_eq_true (by omega); clear c12
    revert H; refine ig_ fun c13 H => ?_
    have c13b0 := decide_eq_true c13; have c13b1 : decide (0 < x4_1.length) = true := decide_eq_true (by omega); clear c13
    revert H; refine ig_ fun c14 H => ?_
    have c14b0 := decide_eq_true c14; clear c14
    revert H; refine ig_ fun c15 H => ?_
    have c15b0 := decide_eq_true c15; clear c15
    revert H; refine ig_ fun c16 H => ?_
    have c16b0 := eq_true c16; have c16b1 := decide_eq_true c16; clear c16; obtain ⟨y271, hy271⟩ : ∃ y_ : List Int, y_ = (x4_1.drop (1 : Int).toNat) := ⟨_, rfl⟩
    replace H : (impl_hangs.l1 k1 l0 x3_1 y271 (wrap64 (x5_1 + 1)) l0 (l0.length : Int) 0 ((rd_T37 l0 (rd x4_1 0)).f0) ((rd_T37 l0 (rd x4_1 0)).f1)) = some r := by first | (rw [hy271]; with_reducible exact H) | (have H2_ := (Option.bind_some _ _).symm.trans H; rw [hy271]; with_reducible exact H2_) | (have H2_ := (Option.bind_some _ _).symm.trans H; with_reducible exact H2_) | with_reducible exact H | (rw [hy271]; exact H) | exact H
    have Ny271 := ak hy271; clear hy271; have H' := ak H; clear H; obtain ⟨Ao17, co17, eo17, _⟩ := Kd.Q_slice HO_4.out; subst eo17; have p268 : 0 ≤ (0 : Int) := (by omega); have q268 : 0 < (x4_1.length : Int) := dq; obtain ⟨ad268, e268, hx268_0⟩ := Kd.at_int (Kd.Q_reads' HO_4.out).2.2 0 p268 q268; cases e268; have qi268 : (0 < x4_1.length) = True := eq_true (by omega)
    (try rw [show ((0 : Int)).toNat = 0 from rfl] at hx268_0)
    (try rw [Addr.add_zero'] at hx268_0)
    replace p268 := eq_true p268; replace q268 := eq_true q268; have p269 : 0 ≤ ((rd x4_1 0) : Int) := dq; have q269 : (rd x4_1 0) < (l0.length : Int) := dq; obtain ⟨ad269, e269, hx269_0, hx269_1⟩ := at_T37 HR0.out (rd x4_1 0) p269 q269; cases e269; replace hx269_0 := hb_ HB hx269_0; replace hx269_1 := hb_ HB hx269_1; replace p269 := eq_true p269; replace q269 := eq_true q269
    go_wp2_with (first | ((with_reducible refine gate_dst (N := 6) rfl ?_); refine box_event ?hg (N := 6) ?hd (cs := #[.int .i64 0, .int .i64 0]) (t := 37) ?hr ?_; (case hd => rfl); (case hg => rfl); (case hr => (go_simp; done)); intro gb270 hg w18 hbox hb; have n0_ := ak (Kd.R_below (rq HO_3) hb); have n1_ := ak (Kd.Q_below (by exact HO_4.out) hb); have n2_ := ak (below_step bq hb); have n3_ := ak (hbox); have n4_ := ak ((by rw [hg]; exact (below_size bq) : w.heap.size ≤ gb270)); have n5_ := ak ((by rw [hg]; exact (below_size bq) : w.heap.size ≤ gb270)); clear HO_3; clear HO_4; clear HB; have HO_3 := n0_; have HO_4 := n1_; have HB := n2_; have BK270 := n3_; have GW270 := n4_; have GE270 := n5_; clear n0_ n1_ n2_ n3_ n4_ n5_; clear hb hbox hg; have hcz19_0 : w18.cell? ⟨gb270, 0, none⟩ = some (.int .i64 0) := (blk_cell BK270.out 0).trans rfl; have hcz19_1 : w18.cell? ⟨gb270, 1, none⟩ = some (.int .i64 0) := (blk_cell BK270.out 1).trans rfl; have hfz19_0 := blk_frozen BK270.out 0; have hfz19_1 := blk_frozen BK270.out 1) | ((with_reducible refine gate_store (t := 37) (p := 6) rfl ?_); refine store_event (t := 37) (p := 6) (v := ?vo_w20) (w1 := ((w18.setCell ⟨gb270, 0, none⟩ (.int .i64 ((rd_T37 l0 (rd x4_1 0)).f0))).setCell ⟨gb270, 1, none⟩ (.int .i64 ((rd_T37 l0 (rd x4_1 0)).f1)))) ?hg ?ho ?hn ?hr ?_; (case ho => rfl); (case hg => rfl); (case hn => rfl); (case hr => (go_simp; done)); intro w20 hw; have n0_ : Aside0 (Kd.R Kd.bool 4 w20 w.heap.size (fun _ => True) (.slice (some ⟨go5, 0, none⟩) x3_1.length co5) x3_1) := ⟨(by rw [hw]; exact (by exact Kd.R_mono (Kd.R_far (p := ⟨gb270, 1, none⟩) (Kd.R_far (p := ⟨gb270, 0, none⟩) (Kd.R_types HO_3.out BK270.out (by decide)) (fun _ hk => hk.2) (.int .i64 ((rd_T37 l0 (rd x4_1 0)).f0))) (fun _ hk => hk.2) (.int .i64 ((rd_T37 l0 (rd x4_1 0)).f1))) (fun _ hk => trivial)))⟩; have n1_ : Aside0 (Kd.Q (Kd.int .i64) 3 w20 w.heap.size (fun _ => True) (.slice (some ad268) x4_1.length co17) x4_1) := ⟨(by rw [hw]; exact (by exact Kd.Q_mono (Kd.Q_far (p := ⟨gb270, 1, none⟩) (Kd.Q_far (p := ⟨gb270, 0, none⟩) (Kd.Q_types HO_4.out BK270.out (by decide)) (fun _ hk => hk.2) (.int .i64 ((rd_T37 l0 (rd x4_1 0)).f0))) (fun _ hk => hk.2) (.int .i64 ((rd_T37 l0 (rd x4_1 0)).f1))) (fun _ hk => trivial)))⟩; have n2_ : Aside0 (w20.heap[gb270]? = some (.cells #[.int .i64 ((rd_T37 l0 (rd x4_1 0)).f0), .int .i64 ((rd_T37 l0 (rd x4_1 0)).f1)] 37 (0, 0))) := ⟨(by rw [hw]; exact (by refine blk_put (cs := #[.int .i64 ((rd_T37 l0 (rd x4_1 0)).f0), .int .i64 0]) ?_ 1 _ rfl; refine blk_put (cs := #[.int .i64 0, .int .i64 0]) ?_ 0 _ rfl; exact BK270.out))⟩; have n3_ : Aside0 (Below w.heap.size w w20) := ⟨(by rw [hw]; exact bs)⟩; clear hw; clear HO_3; clear HO_4; clear BK270; clear HB; have HO_3 := n0_; have HO_4 := n1_; have BK270 := n2_; have HB := n3_; clear n0_ n1_ n2_ n3_; have q21 : (1 : Int) ≤ ((x4_1.length : Int) : Int) := dq; obtain ⟨i021, hi021, _, hsz21, _⟩ := info_parts info3; have hcut21 := cut_from (P := Tryz.prog) 26 3 .i64 Tryz.underlying26 hi021 1 hsz21 (some ad268) x4_1.length co17 1 (by omega) q21; have hr21 := Kd.Q_drop (k := (1 : Int).toNat) HO_4.out (by omega); obtain ⟨A21, hA21⟩ : ∃ A1, A1 = (if co17 = (1 : Int).toNat then (some ad268) else ((some ad268) : Option Addr).map (·.add ((1 : Int).toNat * 1))) := ⟨_, rfl⟩; obtain ⟨c21, hc21⟩ : ∃ c1, c1 = co17 - (1 : Int).toNat := ⟨_, rfl⟩; have hy21 : y271.length = x4_1.length - (1 : Int).toNat := (by rw [Ny271.out, List.length_drop]); rw [← Ny271.out] at hr21; rw [← hy21, ← hA21, ← hc21] at hcut21; replace hr21 : Kd.Q (Kd.int .i64) 3 w20 w.heap.size (fun _ => True) (.slice A21 y271.length c21) y271 := (by rw [hA21, hc21, hy21]; exact hr21); have HE21 : Aside0 ((Value.slice A21 y271.length c21).ownBlock = (.slice (some ad268) x4_1.length co17 : Value).ownBlock) := ⟨by rw [hA21]; split <;> (cases ((some ad268) : Option Addr) <;> rfl)⟩; clear hy21 hi021 hsz21 HO_4 hA21 hc21; have HO273 := ak hr21; clear hr21; replace q21 := eq_true q21))
    go_loopg [4, 32] k1 (fun kq v4 v32 w' => ∃ (x3_2 : List Bool) (x4_2 : List Int) (x32_2 : Int), v32 = .int .i64 x32_2 ∧ Aside0 (impl_hangs.l1 kq l0 x3_2 x4_2 (wrap64 (x5_1 + 1)) l0 (l0.length : Int) x32_2 ((rd_T37 l0 (rd x4_1 0)).f0) ((rd_T37 l0 (rd x4_1 0)).f1) = some r) ∧ Aside0 (kq ≤ k1) ∧ Aside0 (Kd.R Kd.bool 4 w' w.heap.size (fun _ => True) (.slice (some ⟨go5, 0, none⟩) x3_1.length co5) x3_2) ∧ Aside0 (Kd.Q (Kd.int .i64) 3 w' w.heap.size (fun _ => True) v4 x4_2) ∧ Aside0 (w'.heap[gb270]? = some (.cells #[.int .i64 ((rd_T37 l0 (rd x4_1 0)).f0), .int .i64 ((rd_T37 l0 (rd x4_1 0)).f1)] 37 (0, 0))) ∧ Aside0 (Below w.heap.size w w'))
    case atStart => exact ⟨(x3_1), (y271), (0), sq, H', ⟨Nat.le_refl _⟩, ⟨by exact HO_3.out⟩, ⟨by exact HO273.out⟩, ⟨by exact BK270.out⟩, ⟨bs⟩⟩
    case round =>
     clear H'; (try clear c12b0); (try clear c12b1); (try clear c13b0); (try clear c13b1); (try clear c14b0); (try clear c15b0); (try clear c16b0); (try clear c16b1); (try clear q21); (try clear hcz19_0); (try clear hcz19_1); (try clear hfz19_0); (try clear hfz19_1); (try clear hx268_0); (try clear hx269_0); (try clear hx269_1); (try clear p268); (try clear p269); (try clear q268); (try clear q269); obtain ⟨x3_2, x4_2, x32_2, rfl, HA, HK2, HO_3, HO_4, BK270, HB⟩ := hrel; have hl3_2 := (Kd.R_reads' HO_3.out).1; rw [hl3_2] at HO_3
     (try simp only [hl3_2])
     cases gk with
     | zero => exact absurd HA.out (by simp [impl_hangs.l1])
     | succ k2 =>
      have H := HA.out; clear HA; simp only [impl_hangs.l1] at H
      by_cases c22 : x32_2 < (l0.length : Int)
      ·rw [if_pos c22] at H
       have c22b0 := decide_eq_true c22; clear c22
       revert H; refine ig_ fun c23 H => ?_
       have c23b0 := decide_eq_true c23; clear c23
       revert H; refine ig_ fun c24 H => ?_
       have c24b0 := decide_eq_true c24; clear c24
       revert H; refine ig_ fun c25 H => ?_
       have c25b0 := decide_eq_true c25; clear c25; obtain ⟨bq26, hbq26⟩ : ∃ b_ : Bool, b_ = (rdOf false x3_2 x32_2) := ⟨_, rfl⟩
       replace H : (if bq26 = true then (impl_hangs.l1 k2 l0 x3_2 x4_2 (wrap64 (x5_1 + 1)) l0 (l0.length : Int) (wrap64 (x32_2 + 1)) ((rd_T37 l0 (rd x4_1 0)).f0) ((rd_T37 l0 (rd x4_1 0)).f1)) else (if (wrap64 ((wrap64 ((wrap64 (((rd_T37 l0 (rd x4_1 0)).f0) - ((rd_T37 l0 x32_2).f0))) * (wrap64 (((rd_T37 l0 (rd x4_1 0)).f0) - ((rd_T37 l0 x32_2).f0))))) + (wrap64 ((wrap64 (((rd_T37 l0 (rd x4_1 0)).f1) - ((rd_T37 l0 x32_2).f1))) * (wrap64 (((rd_T37 l0 (rd x4_1 0)).f1) - ((rd_T37 l0 x32_2).f1))))))) = 1 then (if x4_2.length < 17592186044416 then (impl_hangs.l1 k2 l0 (x3_2.set (x32_2 : Int).toNat true) (x4_2 ++ [x32_2]) (wrap64 (x5_1 + 1)) l0 (l0.length : Int) (wrap64 (x32_2 + 1)) ((rd_T37 l0 (rd x4_1 0)).f0) ((rd_T37 l0 (rd x4_1 0)).f1)) else (none)) else (impl_hangs.l1 k2 l0 x3_2 x4_2 (wrap64 (x5_1 + 1)) l0 (l0.length : Int) (wrap64 (x32_2 + 1)) ((rd_T37 l0 (rd x4_1 0)).f0) ((rd_T37 l0 (rd x4_1 0)).f1)))) = some r := by rw [← hbq26] at H; exact H
       have Nbq26 := ak hbq26; clear hbq26
       by_cases c27 : bq26 = true
       ·subst c27
        rw [if_pos rfl] at H; have H' := ak H; clear H; have p274 : 0 ≤ (x32_2 : Int) := dq; have q274 : x32_2 < (l0.length : Int) := dq; obtain ⟨ad274, e274, hx274_0, hx274_1⟩ := at_T37 HR0.out x32_2 p274 q274; obtain rfl : ad269 = ad274 := (by injection e274); replace hx274_0 := hb_ HB hx274_0; replace hx274_1 := hb_ HB hx274_1; replace p274 := eq_true p274; replace q274 := eq_true q274
        try go_wp2_with (((with_reducible refine gate_dst (N := 8) rfl ?_); refine box_event ?hg (N := 8) ?hd (cs := #[.int .i64 0, .int .i64 0]) (t := 37) ?hr ?_; (case hd => rfl); (case hg => rfl); (case hr => (go_simp; done)); intro gb275 hg w28 hbox hb; have n0_ := ak (Kd.R_below (rq HO_3) hb); have n1_ := ak (Kd.Q_below (by exact HO_4.out) hb); have n2_ := ak (blk_below (g := gb270) (o := .cells #[.int .i64 ((rd_T37 l0 (rd x4_1 0)).f0), .int .i64 ((rd_T37 l0 (rd x4_1 0)).f1)] 37 (0, 0)) (uq BK270) hb); have n3_ := ak (below_step bs hb); have n4_ := ak (hbox); have n5_ := ak ((by rw [hg]; exact (below_size bs) : w.heap.size ≤ gb275)); have n6_ := ak ((by rw [hg]; exact (below_size bs) : w.heap.size ≤ gb275)); have n7_ := ak ((by rw [hg]; exact Nat.ne_of_lt (blk_lt (g := gb270) (o := .cells #[.int .i64 ((rd_T37 l0 (rd x4_1 0)).f0), .int .i64 ((rd_T37 l0 (rd x4_1 0)).f1)] 37 (0, 0)) (uq BK270)) : gb270 ≠ gb275)); have n8_ := ak ((by rw [hg]; exact Nat.ne_of_gt (blk_lt (g := gb270) (o := .cells #[.int .i64 ((rd_T37 l0 (rd x4_1 0)).f0), .int .i64 ((rd_T37 l0 (rd x4_1 0)).f1)] 37 (0, 0)) (uq BK270)) : gb275 ≠ gb270)); clear HO_3; clear HO_4; clear BK270; clear HB; have HO_3 := n0_; have HO_4 := n1_; have BK270 := n2_; have HB := n3_; have BK275 := n4_; have GW275 := n5_; have GE275 := n6_; have NB270_275 := n7_; have NB275_270 := n8_; clear n0_ n1_ n2_ n3_ n4_ n5_ n6_ n7_ n8_; clear hb hbox hg; have hnb29 := NB275_270.out; have hnc29 := NB270_275.out; have hcz30_0 : w28.cell? ⟨gb275, 0, none⟩ = some (.int .i64 0) := (blk_cell BK275.out 0).trans rfl; have hcz30_1 : w28.cell? ⟨gb275, 1, none⟩ = some (.int .i64 0) := (blk_cell BK275.out 1).trans rfl; have hfz30_0 := blk_frozen BK275.out 0; have hfz30_1 := blk_frozen BK275.out 1))
        have n0_ : Aside0 (Kd.R Kd.bool 4 ((w28.setCell ⟨gb275, 0, none⟩ (.int .i64 ((rd_T37 l0 x32_2).f0))).setCell ⟨gb275, 1, none⟩ (.int .i64 ((rd_T37 l0 x32_2).f1))) w.heap.size (fun _ => True) (.slice (some ⟨go5, 0, none⟩) x3_2.length co5) x3_2) := ⟨by exact Kd.R_mono (Kd.R_far (p := ⟨gb275, 1, none⟩) (Kd.R_far (p := ⟨gb275, 0, none⟩) (Kd.R_types HO_3.out BK275.out (by decide)) (fun _ hk => hk.2) (.int .i64 ((rd_T37 l0 x32_2).f0))) (fun _ hk => hk.2) (.int .i64 ((rd_T37 l0 x32_2).f1))) (fun _ hk => trivial)⟩; have n1_ : Aside0 (Kd.Q (Kd.int .i64) 3 ((w28.setCell ⟨gb275, 0, none⟩ (.int .i64 ((rd_T37 l0 x32_2).f0))).setCell ⟨gb275, 1, none⟩ (.int .i64 ((rd_T37 l0 x32_2).f1))) w.heap.size (fun _ => True) u4 x4_2) := ⟨by exact Kd.Q_mono (Kd.Q_far (p := ⟨gb275, 1, none⟩) (Kd.Q_far (p := ⟨gb275, 0, none⟩) (Kd.Q_types HO_4.out BK275.out (by decide)) (fun _ hk => hk.2) (.int .i64 ((rd_T37 l0 x32_2).f0))) (fun _ hk => hk.2) (.int .i64 ((rd_T37 l0 x32_2).f1))) (fun _ hk => trivial)⟩; have n2_ : Aside0 (((w28.setCell ⟨gb275, 0, none⟩ (.int .i64 ((rd_T37 l0 x32_2).f0))).setCell ⟨gb275, 1, none⟩ (.int .i64 ((rd_T37 l0 x32_2).f1))).heap[gb270]? = some (.cells #[.int .i64 ((rd_T37 l0 (rd x4_1 0)).f0), .int .i64 ((rd_T37 l0 (rd x4_1 0)).f1)] 37 (0, 0))) := ⟨by refine blk_far ?_ NB270_275.out _; refine blk_far ?_ NB270_275.out _; exact BK270.out⟩; have n3_ : Aside0 (((w28.setCell ⟨gb275, 0, none⟩ (.int .i64 ((rd_T37 l0 x32_2).f0))).setCell ⟨gb275, 1, none⟩ (.int .i64 ((rd_T37 l0 x32_2).f1))).heap[gb275]? = some (.cells #[.int .i64 ((rd_T37 l0 x32_2).f0), .int .i64 ((rd_T37 l0 x32_2).f1)] 37 (0, 0))) := ⟨by refine blk_put (cs := #[.int .i64 ((rd_T37 l0 x32_2).f0), .int .i64 0]) ?_ 1 _ rfl; refine blk_put (cs := #[.int .i64 0, .int .i64 0]) ?_ 0 _ rfl; exact BK275.out⟩; have n4_ : Aside0 (Below w.heap.size w ((w28.setCell ⟨gb275, 0, none⟩ (.int .i64 ((rd_T37 l0 x32_2).f0))).setCell ⟨gb275, 1, none⟩ (.int .i64 ((rd_T37 l0 x32_2).f1)))) := ⟨bs⟩
        (try clear HO_3)
        (try clear HO_4)
        (try clear BK270)
        (try clear BK275)
        (try clear HB)
        generalize ((w28.setCell ⟨gb275, 0, none⟩ (.int .i64 ((rd_T37 l0 x32_2).f0))).setCell ⟨gb275, 1, none⟩ (.int .i64 ((rd_T37 l0 x32_2).f1))) = w31 at n0_ n1_ n2_ n3_ n4_ ⊢
        have HO_3 := n0_; have HO_4 := n1_; have BK270 := n2_; have BK275 := n3_; have HB := n4_; clear n0_ n1_ n2_ n3_ n4_; have n0_ := ak (Kd.R_drew HO_3.out); have n1_ := ak (Kd.Q_drew HO_4.out); have n2_ := ak (blk_drew BK270.out); have n3_ := ak (blk_drew BK275.out); have n4_ := ak (below_drew1 HB.out); clear HO_3; clear HO_4; clear BK270; clear BK275; clear HB; have HO_3 := n0_; have HO_4 := n1_; have BK270 := n2_; have BK275 := n3_; have HB := n4_; clear n0_ n1_ n2_ n3_ n4_; refine start_ (n := 12) (S := fun w' => w'.cell? ⟨gb270, 0, none⟩ = some (.int .i64 ((rd_T37 l0 (rd x4_1 0)).f0)) ∧ w'.cell? ⟨gb270, 1, none⟩ = some (.int .i64 ((rd_T37 l0 (rd x4_1 0)).f1)) ∧ w'.cell? ⟨gb275, 0, none⟩ = some (.int .i64 ((rd_T37 l0 x32_2).f0)) ∧ w'.cell? ⟨gb275, 1, none⟩ = some (.int .i64 ((rd_T37 l0 x32_2).f1))) (ds := []) #[Z,Z,Z,Z,Z,Z,Z,Z,Z,Z,Z,Z] (by kernel_rfl) rfl rfl ⟨(blk_cell BK270.out 0).trans rfl, (blk_cell BK270.out 1).trans rfl, (blk_cell BK275.out 0).trans rfl, (blk_cell BK275.out 1).trans rfl⟩ (fun hHeld => ?_); refine with_tabW impl_hangs.tab11 impl_hangs.bits11 (fun HT_ HW_ => ?_)
        generalize w31.drew = w32 at HO_3 HO_4 BK270 BK275 HB hHeld ⊢
        refine pq_ (i := 0) (N := some 37) #[Y,Z,Z,Z,Z,Z,Z,Z,Z,Z,Z,Z] HT_ ?_; refine pq_ (i := 2) (N := some 39) #[Y,Z,Y,Z,Z,Z,Z,Z,Z,Z,Z,Z] HT_ ?_; refine pq_ (i := 5) (N := some 42) #[Y,Z,Y,Z,Z,Y,Z,Z,Z,Z,Z,Z] HT_ ?_; refine pq_ (i := 7) (N := some 44) #[Y,Z,Y,Z,Z,Y,Z,Y,Z,Z,Z,Z] HT_ ?_; refine tk_ (i := 1) (N := some 38) #[Y,Y,Y,Z,Z,Y,Z,Y,Z,Z,Z,Z] HT_ HW_ hHeld ?_; refine tk_ (i := 3) (N := some 40) #[Y,Y,Y,Y,Z,Y,Z,Y,Z,Z,Z,Z] HT_ HW_ hHeld ?_; refine pq_ (i := 4) (N := some 41) #[Y,Y,Y,Y,Y,Y,Z,Y,Z,Z,Z,Z] HT_ ?_; refine pq_ (i := 10) (N := some 9) #[Y,Y,Y,Y,Y,Y,Z,Y,Z,Z,Y,Z] HT_ ?_; refine tk_ (i := 6) (N := some 43) #[Y,Y,Y,Y,Y,Y,Y,Y,Z,Z,Y,Z] HT_ HW_ hHeld ?_; refine tk_ (i := 8) (N := some 45) #[Y,Y,Y,Y,Y,Y,Y,Y,Y,Z,Y,Z] HT_ HW_ hHeld ?_; refine pq_ (i := 9) (N := some 46) #[Y,Y,Y,Y,Y,Y,Y,Y,Y,Y,Y,Z] HT_ ?_; refine pq_ (i := 11) (N := some 10) #[Y,Y,Y,Y,Y,Y,Y,Y,Y,Y,Y,Y] HT_ ?_; refine done_ (done_of HT_.out (by kernel_rfl)) ?_; have p276 : 0 ≤ (x32_2 : Int) := dq; have q276 : x32_2 < (x3_2.length : Int) := dq; obtain ⟨ad276, e276, hx276_0⟩ := Kd.at_bool (Kd.R_reads' HO_3.out).2.2 x32_2 p276 q276
        (try rw [← Nbq26.out] at hx276_0)
        obtain rfl : (⟨go5, 0, none⟩ : Addr) = ad276 := (by injection e276)
        (simp only [add_plain] at hx276_0)
        replace p276 := eq_true p276; replace q276 := eq_true q276; (try go_wp2)
        (try simp only [← hl3_2])
        go_roundg k2
        case measure => have := HK1.out; have := HK2.out; omega
        case rel => exact ⟨(x3_2), (x4_2), (wrap64 (x32_2 + 1)), sq, H', ⟨by have := HK1.out; have := HK2.out; omega⟩, ⟨by (try simp only [hl3_2]); exact HO_3.out⟩, ⟨by exact HO_4.out⟩, ⟨by exact BK270.out⟩, ⟨bs⟩⟩
       ·replace c27 := Bool.eq_false_iff.mpr c27
        subst c27; rw [if_neg (show ¬ (false = true) by decide)] at H
        by_cases c33 : (wrap64 ((wrap64 ((wrap64 (((rd_T37 l0 (rd x4_1 0)).f0) - ((rd_T37 l0 x32_2).f0))) * (wrap64 (((rd_T37 l0 (rd x4_1 0)).f0) - ((rd_T37 l0 x32_2).f0))))) + (wrap64 ((wrap64 (((rd_T37 l0 (rd x4_1 0)).f1) - ((rd_T37 l0 x32_2).f1))) * (wrap64 (((rd_T37 l0 (rd x4_1 0)).f1) - ((rd_T37 l0 x32_2).f1))))))) = 1
        ·rw [if_pos c33] at H
         have c33b0 : ((wrap64 ((wrap64 ((wrap64 (((rd_T37 l0 (rd x4_1 0)).f0) - ((rd_T37 l0 x32_2).f0))) * (wrap64 (((rd_T37 l0 (rd x4_1 0)).f0) - ((rd_T37 l0 x32_2).f0))))) + (wrap64 ((wrap64 (((rd_T37 l0 (rd x4_1 0)).f1) - ((rd_T37 l0 x32_2).f1))) * (wrap64 (((rd_T37 l0 (rd x4_1 0)).f1) - ((rd_T37 l0 x32_2).f1))))))) == 1) = true := beq_iff_eq.mpr c33; have c33b1 : ((wrap64 ((wrap64 ((wrap64 (((rd_T37 l0 (rd x4_1 0)).f0) - ((rd_T37 l0 x32_2).f0))) * (wrap64 (((rd_T37 l0 (rd x4_1 0)).f0) - ((rd_T37 l0 x32_2).f0))))) + (wrap64 ((wrap64 (((rd_T37 l0 (rd x4_1 0)).f1) - ((rd_T37 l0 x32_2).f1))) * (wrap64 (((rd_T37 l0 (rd x4_1 0)).f1) - ((rd_T37 l0 x32_2).f1))))))) != 1) = false := bne_eq_false_iff_eq.mpr c33; clear c33; obtain ⟨y277, hy277⟩ : ∃ y_ : List Bool, y_ = (x3_2.set (x32_2 : Int).toNat true) := ⟨_, rfl⟩
         replace H : (if x4_2.length < 17592186044416 then (impl_hangs.l1 k2 l0 y277 (x4_2 ++ [x32_2]) (wrap64 (x5_1 + 1)) l0 (l0.length : Int) (wrap64 (x32_2 + 1)) ((rd_T37 l0 (rd x4_1 0)).f0) ((rd_T37 l0 (rd x4_1 0)).f1)) else (none)) = some r := by first | (rw [hy277]; with_reducible exact H) | (have H2_ := (Option.bind_some _ _).symm.trans H; rw [hy277]; with_reducible exact H2_) | (have H2_ := (Option.bind_some _ _).symm.trans H; with_reducible exact H2_) | with_reducible exact H | (rw [hy277]; exact H) | exact H
         have Ny277 := ak hy277; clear hy277
         revert H; refine ig_ fun c35 H => ?_
         have LMc35 := ak c35; clear c35; obtain ⟨y278, hy278⟩ : ∃ y_ : List Int, y_ = (x4_2 ++ [x32_2]) := ⟨_, rfl⟩
         replace H : (impl_hangs.l1 k2 l0 y277 y278 (wrap64 (x5_1 + 1)) l0 (l0.length : Int) (wrap64 (x32_2 + 1)) ((rd_T37 l0 (rd x4_1 0)).f0) ((rd_T37 l0 (rd x4_1 0)).f1)) = some r := by first | (rw [hy278]; with_reducible exact H) | (have H2_ := (Option.bind_some _ _).symm.trans H; rw [hy278]; with_reducible exact H2_) | (have H2_ := (Option.bind_some _ _).symm.trans H; with_reducible exact H2_) | with_reducible exact H | (rw [hy278]; exact H) | exact H
         have Ny278 := ak hy278; clear hy278; have H' := ak H; clear H; have p274 : 0 ≤ (x32_2 : Int) := dq; have q274 : x32_2 < (l0.length : Int) := dq; obtain ⟨ad274, e274, hx274_0, hx274_1⟩ := at_T37 HR0.out x32_2 p274 q274; obtain rfl : ad269 = ad274 := (by injection e274); replace hx274_0 := hb_ HB hx274_0; replace hx274_1 := hb_ HB hx274_1; replace p274 := eq_true p274; replace q274 := eq_true q274
         try go_wp2_with (((with_reducible refine gate_dst (N := 8) rfl ?_); refine box_event ?hg (N := 8) ?hd (cs := #[.int .i64 0, .int .i64 0]) (t := 37) ?hr ?_; (case hd => rfl); (case hg => rfl); (case hr => (go_simp; done)); intro gb275 hg w36 hbox hb; have n0_ := ak (Kd.R_below (rq HO_3) hb); have n1_ := ak (Kd.Q_below (by exact HO_4.out) hb); have n2_ := ak (blk_below (g := gb270) (o := .cells #[.int .i64 ((rd_T37 l0 (rd x4_1 0)).f0), .int .i64 ((rd_T37 l0 (rd x4_1 0)).f1)] 37 (0, 0)) (uq BK270) hb); have n3_ := ak (below_step bs hb); have n4_ := ak (hbox); have n5_ := ak ((by rw [hg]; exact (below_size bs) : w.heap.size ≤ gb275)); have n6_ := ak ((by rw [hg]; exact (below_size bs) : w.heap.size ≤ gb275)); have n7_ := ak ((by rw [hg]; exact Nat.ne_of_lt (blk_lt (g := gb270) (o := .cells #[.int .i64 ((rd_T37 l0 (rd x4_1 0)).f0), .int .i64 ((rd_T37 l0 (rd x4_1 0)).f1)] 37 (0, 0)) (uq BK270)) : gb270 ≠ gb275)); have n8_ := ak ((by rw [hg]; exact Nat.ne_of_gt (blk_lt (g := gb270) (o := .cells #[.int .i64 ((rd_T37 l0 (rd x4_1 0)).f0), .int .i64 ((rd_T37 l0 (rd x4_1 0)).f1)] 37 (0, 0)) (uq BK270)) : gb275 ≠ gb270)); clear HO_3; clear HO_4; clear BK270; clear HB; have HO_3 := n0_; have HO_4 := n1_; have BK270 := n2_; have HB := n3_; have BK275 := n4_; have GW275 := n5_; have GE275 := n6_; have NB270_275 := n7_; have NB275_270 := n8_; clear n0_ n1_ n2_ n3_ n4_ n5_ n6_ n7_ n8_; clear hb hbox hg; have hnb37 := NB275_270.out; have hnc37 := NB270_275.out; have hcz38_0 : w36.cell? ⟨gb275, 0, none⟩ = some (.int .i64 0) := (blk_cell BK275.out 0).trans rfl; have hcz38_1 : w36.cell? ⟨gb275, 1, none⟩ = some (.int .i64 0) := (blk_cell BK275.out 1).trans rfl; have hfz38_0 := blk_frozen BK275.out 0; have hfz38_1 := blk_frozen BK275.out 1))
         have n0_ : Aside0 (Kd.R Kd.bool 4 ((w36.setCell ⟨gb275, 0, none⟩ (.int .i64 ((rd_T37 l0 x32_2).f0))).setCell ⟨gb275, 1, none⟩ (.int .i64 ((rd_T37 l0 x32_2).f1))) w.heap.size (fun _ => True) (.slice (some ⟨go5, 0, none⟩) x3_2.length co5) x3_2) := ⟨by exact Kd.R_mono (Kd.R_far (p := ⟨gb275, 1, none⟩) (Kd.R_far (p := ⟨gb275, 0, none⟩) (Kd.R_types HO_3.out BK275.out (by decide)) (fun _ hk => hk.2) (.int .i64 ((rd_T37 l0 x32_2).f0))) (fun _ hk => hk.2) (.int .i64 ((rd_T37 l0 x32_2).f1))) (fun _ hk => trivial)⟩; have n1_ : Aside0 (Kd.Q (Kd.int .i64) 3 ((w36.setCell ⟨gb275, 0, none⟩ (.int .i64 ((rd_T37 l0 x32_2).f0))).setCell ⟨gb275, 1, none⟩ (.int .i64 ((rd_T37 l0 x32_2).f1))) w.heap.size (fun _ => True) u4 x4_2) := ⟨by exact Kd.Q_mono (Kd.Q_far (p := ⟨gb275, 1, none⟩) (Kd.Q_far (p := ⟨gb275, 0, none⟩) (Kd.Q_types HO_4.out BK275.out (by decide)) (fun _ hk => hk.2) (.int .i64 ((rd_T37 l0 x32_2).f0))) (fun _ hk => hk.2) (.int .i64 ((rd_T37 l0 x32_2).f1))) (fun _ hk => trivial)⟩; have n2_ : Aside0 (((w36.setCell ⟨gb275, 0, none⟩ (.int .i64 ((rd_T37 l0 x32_2).f0))).setCell ⟨gb275, 1, none⟩ (.int .i64 ((rd_T37 l0 x32_2).f1))).heap[gb270]? = some (.cells #[.int .i64 ((rd_T37 l0 (rd x4_1 0)).f0), .int .i64 ((rd_T37 l0 (rd x4_1 0)).f1)] 37 (0, 0))) := ⟨by refine blk_far ?_ NB270_275.out _; refine blk_far ?_ NB270_275.out _; exact BK270.out⟩; have n3_ : Aside0 (((w36.setCell ⟨gb275, 0, none⟩ (.int .i64 ((rd_T37 l0 x32_2).f0))).setCell ⟨gb275, 1, none⟩ (.int .i64 ((rd_T37 l0 x32_2).f1))).heap[gb275]? = some (.cells #[.int .i64 ((rd_T37 l0 x32_2).f0), .int .i64 ((rd_T37 l0 x32_2).f1)] 37 (0, 0))) := ⟨by refine blk_put (cs := #[.int .i64 ((rd_T37 l0 x32_2).f0), .int .i64 0]) ?_ 1 _ rfl; refine blk_put (cs := #[.int .i64 0, .int .i64 0]) ?_ 0 _ rfl; exact BK275.out⟩; have n4_ : Aside0 (Below w.heap.size w ((w36.setCell ⟨gb275, 0, none⟩ (.int .i64 ((rd_T37 l0 x32_2).f0))).setCell ⟨gb275, 1, none⟩ (.int .i64 ((rd_T37 l0 x32_2).f1)))) := ⟨bs⟩
         (try clear HO_3)
         (try clear HO_4)
         (try clear BK270)
         (try clear BK275)
         (try clear HB)
         generalize ((w36.setCell ⟨gb275, 0, none⟩ (.int .i64 ((rd_T37 l0 x32_2).f0))).setCell ⟨gb275, 1, none⟩ (.int .i64 ((rd_T37 l0 x32_2).f1))) = w39 at n0_ n1_ n2_ n3_ n4_ ⊢
         have HO_3 := n0_; have HO_4 := n1_; have BK270 := n2_; have BK275 := n3_; have HB := n4_; clear n0_ n1_ n2_ n3_ n4_; have n0_ := ak (Kd.R_drew HO_3.out); have n1_ := ak (Kd.Q_drew HO_4.out); have n2_ := ak (blk_drew BK270.out); have n3_ := ak (blk_drew BK275.out); have n4_ := ak (below_drew1 HB.out); clear HO_3; clear HO_4; clear BK270; clear BK275; clear HB; have HO_3 := n0_; have HO_4 := n1_; have BK270 := n2_; have BK275 := n3_; have HB := n4_; clear n0_ n1_ n2_ n3_ n4_; refine start_ (n := 12) (S := fun w' => w'.cell? ⟨gb270, 0, none⟩ = some (.int .i64 ((rd_T37 l0 (rd x4_1 0)).f0)) ∧ w'.cell? ⟨gb270, 1, none⟩ = some (.int .i64 ((rd_T37 l0 (rd x4_1 0)).f1)) ∧ w'.cell? ⟨gb275, 0, none⟩ = some (.int .i64 ((rd_T37 l0 x32_2).f0)) ∧ w'.cell? ⟨gb275, 1, none⟩ = some (.int .i64 ((rd_T37 l0 x32_2).f1))) (ds := []) #[Z,Z,Z,Z,Z,Z,Z,Z,Z,Z,Z,Z] (by kernel_rfl) rfl rfl ⟨(blk_cell BK270.out 0).trans rfl, (blk_cell BK270.out 1).trans rfl, (blk_cell BK275.out 0).trans rfl, (blk_cell BK275.out 1).trans rfl⟩ (fun hHeld => ?_); refine with_tabW impl_hangs.tab11 impl_hangs.bits11 (fun HT_ HW_ => ?_)
         generalize w39.drew = w40 at HO_3 HO_4 BK270 BK275 HB hHeld ⊢
         refine pq_ (i := 0) (N := some 37) #[Y,Z,Z,Z,Z,Z,Z,Z,Z,Z,Z,Z] HT_ ?_; refine pq_ (i := 2) (N := some 39) #[Y,Z,Y,Z,Z,Z,Z,Z,Z,Z,Z,Z] HT_ ?_; refine pq_ (i := 5) (N := some 42) #[Y,Z,Y,Z,Z,Y,Z,Z,Z,Z,Z,Z] HT_ ?_; refine pq_ (i := 7) (N := some 44) #[Y,Z,Y,Z,Z,Y,Z,Y,Z,Z,Z,Z] HT_ ?_; refine tk_ (i := 1) (N := some 38) #[Y,Y,Y,Z,Z,Y,Z,Y,Z,Z,Z,Z] HT_ HW_ hHeld ?_; refine tk_ (i := 3) (N := some 40) #[Y,Y,Y,Y,Z,Y,Z,Y,Z,Z,Z,Z] HT_ HW_ hHeld ?_; refine pq_ (i := 4) (N := some 41) #[Y,Y,Y,Y,Y,Y,Z,Y,Z,Z,Z,Z] HT_ ?_; refine pq_ (i := 10) (N := some 9) #[Y,Y,Y,Y,Y,Y,Z,Y,Z,Z,Y,Z] HT_ ?_; refine tk_ (i := 6) (N := some 43) #[Y,Y,Y,Y,Y,Y,Y,Y,Z,Z,Y,Z] HT_ HW_ hHeld ?_; refine tk_ (i := 8) (N := some 45) #[Y,Y,Y,Y,Y,Y,Y,Y,Y,Z,Y,Z] HT_ HW_ hHeld ?_; refine pq_ (i := 9) (N := some 46) #[Y,Y,Y,Y,Y,Y,Y,Y,Y,Y,Y,Z] HT_ ?_; refine pq_ (i := 11) (N := some 10) #[Y,Y,Y,Y,Y,Y,Y,Y,Y,Y,Y,Y] HT_ ?_; refine done_ (done_of HT_.out (by kernel_rfl)) ?_; have p276 : 0 ≤ (x32_2 : Int) := dq; have q276 : x32_2 < (x3_2.length : Int) := dq; obtain ⟨ad276, e276, hx276_0⟩ := Kd.at_bool (Kd.R_reads' HO_3.out).2.2 x32_2 p276 q276
         (try rw [← Nbq26.out] at hx276_0)
         obtain rfl : (⟨go5, 0, none⟩ : Addr) = ad276 := (by injection e276)
         (simp only [add_plain] at hx276_0)
         replace p276 := eq_true p276; replace q276 := eq_true q276; have p34 : 0 ≤ (x32_2 : Int) := dq; have q34 : (x32_2 : Int) < ((x3_2.length : Int) : Int) := dq; obtain ⟨hx34_0, hf34_0⟩ := Kd.R_celln false HO_3.out (x32_2 : Int) p34 q34; replace p34 := eq_true p34; replace q34 := eq_true q34; obtain ⟨hy41_, hz41_⟩ := Kd.R_celln false HO_3.out (x32_2 : Int) (dq) (dq); have HP41 := Kd.R_putg HO_3.out (x32_2 : Int) true
         try go_wp2_with (first | ((with_reducible refine gate_store (t := 4) (p := 64) rfl ?_); refine store_event (t := 4) (p := 64) (v := ?vo_w42) (w1 := (w40.setCell ⟨go5, (x32_2 : Int).toNat, none⟩ (.bool true))) ?hg ?ho ?hn ?hr ?_; (case ho => rfl); (case hg => rfl); (case hn => rfl); (case hr => (go_simp; done)); intro w42 hw; have hg : w40.grownBy w42 (some go5) := (by rw [hw]; exact HP41.2); have hp_ : Kd.R Kd.bool 4 w42 w.heap.size (fun _ => True) (.slice (some ⟨go5, 0, none⟩) x3_2.length co5) y277 := (by rw [hw, Ny277.out]; exact HP41.1); clear HP41; have n0_ := ak (hp_); have n1_ := ak (Kd.Q_over' (v := (.slice (some ⟨go5, 0, none⟩) x3_2.length co5)) (by exact HO_4.out) (Kd.R_typed HO_3.out) (by decide) hg); have n2_ := ak (blk_grown (g := gb270) (o := .cells #[.int .i64 ((rd_T37 l0 (rd x4_1 0)).f0), .int .i64 ((rd_T37 l0 (rd x4_1 0)).f1)] 37 (0, 0)) (uq BK270) hg (Kd.R_ne HO_3.out BK270.out (by decide))); have n3_ := ak (blk_grown (g := gb275) (o := .cells #[.int .i64 ((rd_T37 l0 x32_2).f0), .int .i64 ((rd_T37 l0 x32_2).f1)] 37 (0, 0)) (uq BK275) hg (Kd.R_ne HO_3.out BK275.out (by decide))); have n4_ := ak ((by rw [hw]; exact below_set (HB.out) GB5.out : Below w.heap.size w w42)); clear HO_3; clear HO_4; clear BK270; clear BK275; clear HB; have HO_3 := n0_; have HO_4 := n1_; have BK270 := n2_; have BK275 := n3_; have HB := n4_; clear n0_ n1_ n2_ n3_ n4_; clear hg hw hp_) | ((with_reducible refine gate_builtin (b := .append) (xs := #[.tmp 65, .tmp 67]) rfl ?_); at_builtin; refine Kd.Q_append (Kd.int .i64) (w0 := w) w.heap.size rfl (.tmp 65) (.tmp 67) 26 3 (.int .i64 0) 8 rfl Tryz.underlying26 info3 rfl (by decide) (by omega) u4 x4_2 x32_2 [.int .i64 x32_2] (fun _ => True) (fun _ => False) rfl rfl ?aP (fun _ hk => hk.elim) ?aF ?aO ?aB ?aS ?aL ?_; (case aP => exact rfl); (case aB => exact bs); (case aF => exact (fun _ _ => trivial)); (case aO => exact (by exact HO_4.out)); (case aS => exact (below_size bs)); (case aL => have := LMc35.out; omega); intro v279 w43 ho hb hg hat; rw [← Ny278.out] at ho; have n0_ := ak (Kd.R_over' (rq HO_3) (Kd.Q_typed (by exact HO_4.out)) (by decide) hg); have n1_ := ak (blk_grown (g := gb270) (o := .cells #[.int .i64 ((rd_T37 l0 (rd x4_1 0)).f0), .int .i64 ((rd_T37 l0 (rd x4_1 0)).f1)] 37 (0, 0)) (uq BK270) hg (Kd.Q_ne HO_4.out BK270.out (by decide))); have n2_ := ak (blk_grown (g := gb275) (o := .cells #[.int .i64 ((rd_T37 l0 x32_2).f0), .int .i64 ((rd_T37 l0 x32_2).f1)] 37 (0, 0)) (uq BK275) hg (Kd.Q_ne HO_4.out BK275.out (by decide))); have n3_ := ak (hb); have n4_ := ak (ho); clear HO_3; clear BK270; clear BK275; clear HB; clear HO_4; have HO_3 := n0_; have BK270 := n1_; have BK275 := n2_; have HB := n3_; have HO280 := n4_; clear n0_ n1_ n2_ n3_ n4_; clear ho hb hg hat))
         (try simp only [← hl3_2])
         go_roundg k2
         case measure => have := HK1.out; have := HK2.out; omega
         case rel => exact ⟨(y277), (y278), (wrap64 (x32_2 + 1)), sq, H', ⟨by have := HK1.out; have := HK2.out; omega⟩, ⟨by (try simp only [hl3_2]); exact HO_3.out⟩, ⟨by exact HO280.out⟩, ⟨by exact BK270.out⟩, ⟨bs⟩⟩
        ·rw [if_neg c33] at H
         have c33b0 : ((wrap64 ((wrap64 ((wrap64 (((rd_T37 l0 (rd x4_1 0)).f0) - ((rd_T37 l0 x32_2).f0))) * (wrap64 (((rd_T37 l0 (rd x4_1 0)).f0) - ((rd_T37 l0 x32_2).f0))))) + (wrap64 ((wrap64 (((rd_T37 l0 (rd x4_1 0)).f1) - ((rd_T37 l0 x32_2).f1))) * (wrap64 (((rd_T37 l0 (rd x4_1 0)).f1) - ((rd_T37 l0 x32_2).f1))))))) == 1) = false := beq_eq_false_iff_ne.mpr c33; have c33b1 : ((wrap64 ((wrap64 ((wrap64 (((rd_T37 l0 (rd x4_1 0)).f0) - ((rd_T37 l0 x32_2).f0))) * (wrap64 (((rd_T37 l0 (rd x4_1 0)).f0) - ((rd_T37 l0 x32_2).f0))))) + (wrap64 ((wrap64 (((rd_T37 l0 (rd x4_1 0)).f1) - ((rd_T37 l0 x32_2).f1))) * (wrap64 (((rd_T37 l0 (rd x4_1 0)).f1) - ((rd_T37 l0 x32_2).f1))))))) != 1) = true := bne_iff_ne.mpr c33; have H' := ak H; clear H; have p274 : 0 ≤ (x32_2 : Int) := dq; have q274 : x32_2 < (l0.length : Int) := dq; obtain ⟨ad274, e274, hx274_0, hx274_1⟩ := at_T37 HR0.out x32_2 p274 q274; obtain rfl : ad269 = ad274 := (by injection e274); replace hx274_0 := hb_ HB hx274_0; replace hx274_1 := hb_ HB hx274_1; replace p274 := eq_true p274; replace q274 := eq_true q274
         try go_wp2_with (((with_reducible refine gate_dst (N := 8) rfl ?_); refine box_event ?hg (N := 8) ?hd (cs := #[.int .i64 0, .int .i64 0]) (t := 37) ?hr ?_; (case hd => rfl); (case hg => rfl); (case hr => (go_simp; done)); intro gb275 hg w44 hbox hb; have n0_ := ak (Kd.R_below (rq HO_3) hb); have n1_ := ak (Kd.Q_below (by exact HO_4.out) hb); have n2_ := ak (blk_below (g := gb270) (o := .cells #[.int .i64 ((rd_T37 l0 (rd x4_1 0)).f0), .int .i64 ((rd_T37 l0 (rd x4_1 0)).f1)] 37 (0, 0)) (uq BK270) hb); have n3_ := ak (below_step bs hb); have n4_ := ak (hbox); have n5_ := ak ((by rw [hg]; exact (below_size bs) : w.heap.size ≤ gb275)); have n6_ := ak ((by rw [hg]; exact (below_size bs) : w.heap.size ≤ gb275)); have n7_ := ak ((by rw [hg]; exact Nat.ne_of_lt (blk_lt (g := gb270) (o := .cells #[.int .i64 ((rd_T37 l0 (rd x4_1 0)).f0), .int .i64 ((rd_T37 l0 (rd x4_1 0)).f1)] 37 (0, 0)) (uq BK270)) : gb270 ≠ gb275)); have n8_ := ak ((by rw [hg]; exact Nat.ne_of_gt (blk_lt (g := gb270) (o := .cells #[.int .i64 ((rd_T37 l0 (rd x4_1 0)).f0), .int .i64 ((rd_T37 l0 (rd x4_1 0)).f1)] 37 (0, 0)) (uq BK270)) : gb275 ≠ gb270)); clear HO_3; clear HO_4; clear BK270; clear HB; have HO_3 := n0_; have HO_4 := n1_; have BK270 := n2_; have HB := n3_; have BK275 := n4_; have GW275 := n5_; have GE275 := n6_; have NB270_275 := n7_; have NB275_270 := n8_; clear n0_ n1_ n2_ n3_ n4_ n5_ n6_ n7_ n8_; clear hb hbox hg; have hnb45 := NB275_270.out; have hnc45 := NB270_275.out; have hcz46_0 : w44.cell? ⟨gb275, 0, none⟩ = some (.int .i64 0) := (blk_cell BK275.out 0).trans rfl; have hcz46_1 : w44.cell? ⟨gb275, 1, none⟩ = some (.int .i64 0) := (blk_cell BK275.out 1).trans rfl; have hfz46_0 := blk_frozen BK275.out 0; have hfz46_1 := blk_frozen BK275.out 1))
         have n0_ : Aside0 (Kd.R Kd.bool 4 ((w44.setCell ⟨gb275, 0, none⟩ (.int .i64 ((rd_T37 l0 x32_2).f0))).setCell ⟨gb275, 1, none⟩ (.int .i64 ((rd_T37 l0 x32_2).f1))) w.heap.size (fun _ => True) (.slice (some ⟨go5, 0, none⟩) x3_2.length co5) x3_2) := ⟨by exact Kd.R_mono (Kd.R_far (p := ⟨gb275, 1, none⟩) (Kd.R_far (p := ⟨gb275, 0, none⟩) (Kd.R_types HO_3.out BK275.out (by decide)) (fun _ hk => hk.2) (.int .i64 ((rd_T37 l0 x32_2).f0))) (fun _ hk => hk.2) (.int .i64 ((rd_T37 l0 x32_2).f1))) (fun _ hk => trivial)⟩; have n1_ : Aside0 (Kd.Q (Kd.int .i64) 3 ((w44.setCell ⟨gb275, 0, none⟩ (.int .i64 ((rd_T37 l0 x32_2).f0))).setCell ⟨gb275, 1, none⟩ (.int .i64 ((rd_T37 l0 x32_2).f1))) w.heap.size (fun _ => True) u4 x4_2) := ⟨by exact Kd.Q_mono (Kd.Q_far (p := ⟨gb275, 1, none⟩) (Kd.Q_far (p := ⟨gb275, 0, none⟩) (Kd.Q_types HO_4.out BK275.out (by decide)) (fun _ hk => hk.2) (.int .i64 ((rd_T37 l0 x32_2).f0))) (fun _ hk => hk.2) (.int .i64 ((rd_T37 l0 x32_2).f1))) (fun _ hk => trivial)⟩; have n2_ : Aside0 (((w44.setCell ⟨gb275, 0, none⟩ (.int .i64 ((rd_T37 l0 x32_2).f0))).setCell ⟨gb275, 1, none⟩ (.int .i64 ((rd_T37 l0 x32_2).f1))).heap[gb270]? = some (.cells #[.int .i64 ((rd_T37 l0 (rd x4_1 0)).f0), .int .i64 ((rd_T37 l0 (rd x4_1 0)).f1)] 37 (0, 0))) := ⟨by refine blk_far ?_ NB270_275.out _; refine blk_far ?_ NB270_275.out _; exact BK270.out⟩; have n3_ : Aside0 (((w44.setCell ⟨gb275, 0, none⟩ (.int .i64 ((rd_T37 l0 x32_2).f0))).setCell ⟨gb275, 1, none⟩ (.int .i64 ((rd_T37 l0 x32_2).f1))).heap[gb275]? = some (.cells #[.int .i64 ((rd_T37 l0 x32_2).f0), .int .i64 ((rd_T37 l0 x32_2).f1)] 37 (0, 0))) := ⟨by refine blk_put (cs := #[.int .i64 ((rd_T37 l0 x32_2).f0), .int .i64 0]) ?_ 1 _ rfl; refine blk_put (cs := #[.int .i64 0, .int .i64 0]) ?_ 0 _ rfl; exact BK275.out⟩; have n4_ : Aside0 (Below w.heap.size w ((w44.setCell ⟨gb275, 0, none⟩ (.int .i64 ((rd_T37 l0 x32_2).f0))).setCell ⟨gb275, 1, none⟩ (.int .i64 ((rd_T37 l0 x32_2).f1)))) := ⟨bs⟩
         (try clear HO_3)
         (try clear HO_4)
         (try clear BK270)
         (try clear BK275)
         (try clear HB)
         generalize ((w44.setCell ⟨gb275, 0, none⟩ (.int .i64 ((rd_T37 l0 x32_2).f0))).setCell ⟨gb275, 1, none⟩ (.int .i64 ((rd_T37 l0 x32_2).f1))) = w47 at n0_ n1_ n2_ n3_ n4_ ⊢
         have HO_3 := n0_; have HO_4 := n1_; have BK270 := n2_; have BK275 := n3_; have HB := n4_; clear n0_ n1_ n2_ n3_ n4_; have n0_ := ak (Kd.R_drew HO_3.out); have n1_ := ak (Kd.Q_drew HO_4.out); have n2_ := ak (blk_drew BK270.out); have n3_ := ak (blk_drew BK275.out); have n4_ := ak (below_drew1 HB.out); clear HO_3; clear HO_4; clear BK270; clear BK275; clear HB; have HO_3 := n0_; have HO_4 := n1_; have BK270 := n2_; have BK275 := n3_; have HB := n4_; clear n0_ n1_ n2_ n3_ n4_; refine start_ (n := 12) (S := fun w' => w'.cell? ⟨gb270, 0, none⟩ = some (.int .i64 ((rd_T37 l0 (rd x4_1 0)).f0)) ∧ w'.cell? ⟨gb270, 1, none⟩ = some (.int .i64 ((rd_T37 l0 (rd x4_1 0)).f1)) ∧ w'.cell? ⟨gb275, 0, none⟩ = some (.int .i64 ((rd_T37 l0 x32_2).f0)) ∧ w'.cell? ⟨gb275, 1, none⟩ = some (.int .i64 ((rd_T37 l0 x32_2).f1))) (ds := []) #[Z,Z,Z,Z,Z,Z,Z,Z,Z,Z,Z,Z] (by kernel_rfl) rfl rfl ⟨(blk_cell BK270.out 0).trans rfl, (blk_cell BK270.out 1).trans rfl, (blk_cell BK275.out 0).trans rfl, (blk_cell BK275.out 1).trans rfl⟩ (fun hHeld => ?_); refine with_tabW impl_hangs.tab11 impl_hangs.bits11 (fun HT_ HW_ => ?_)
         generalize w47.drew = w48 at HO_3 HO_4 BK270 BK275 HB hHeld ⊢
         refine pq_ (i := 0) (N := some 37) #[Y,Z,Z,Z,Z,Z,Z,Z,Z,Z,Z,Z] HT_ ?_; refine pq_ (i := 2) (N := some 39) #[Y,Z,Y,Z,Z,Z,Z,Z,Z,Z,Z,Z] HT_ ?_; refine pq_ (i := 5) (N := some 42) #[Y,Z,Y,Z,Z,Y,Z,Z,Z,Z,Z,Z] HT_ ?_; refine pq_ (i := 7) (N := some 44) #[Y,Z,Y,Z,Z,Y,Z,Y,Z,Z,Z,Z] HT_ ?_; refine tk_ (i := 1) (N := some 38) #[Y,Y,Y,Z,Z,Y,Z,Y,Z,Z,Z,Z] HT_ HW_ hHeld ?_; refine tk_ (i := 3) (N := some 40) #[Y,Y,Y,Y,Z,Y,Z,Y,Z,Z,Z,Z] HT_ HW_ hHeld ?_; refine pq_ (i := 4) (N := some 41) #[Y,Y,Y,Y,Y,Y,Z,Y,Z,Z,Z,Z] HT_ ?_; refine pq_ (i := 10) (N := some 9) #[Y,Y,Y,Y,Y,Y,Z,Y,Z,Z,Y,Z] HT_ ?_; refine tk_ (i := 6) (N := some 43) #[Y,Y,Y,Y,Y,Y,Y,Y,Z,Z,Y,Z] HT_ HW_ hHeld ?_; refine tk_ (i := 8) (N := some 45) #[Y,Y,Y,Y,Y,Y,Y,Y,Y,Z,Y,Z] HT_ HW_ hHeld ?_; refine pq_ (i := 9) (N := some 46) #[Y,Y,Y,Y,Y,Y,Y,Y,Y,Y,Y,Z] HT_ ?_; refine pq_ (i := 11) (N := some 10) #[Y,Y,Y,Y,Y,Y,Y,Y,Y,Y,Y,Y] HT_ ?_; refine done_ (done_of HT_.out (by kernel_rfl)) ?_; have p276 : 0 ≤ (x32_2 : Int) := dq; have q276 : x32_2 < (x3_2.length : Int) := dq; obtain ⟨ad276, e276, hx276_0⟩ := Kd.at_bool (Kd.R_reads' HO_3.out).2.2 x32_2 p276 q276
         (try rw [← Nbq26.out] at hx276_0)
         obtain rfl : (⟨go5, 0, none⟩ : Addr) = ad276 := (by injection e276)
         (simp only [add_plain] at hx276_0)
         replace p276 := eq_true p276; replace q276 := eq_true q276; (try go_wp2)
         (try simp only [← hl3_2])
         go_roundg k2
         case measure => have := HK1.out; have := HK2.out; omega
         case rel => exact ⟨(x3_2), (x4_2), (wrap64 (x32_2 + 1)), sq, H', ⟨by have := HK1.out; have := HK2.out; omega⟩, ⟨by (try simp only [hl3_2]); exact HO_3.out⟩, ⟨by exact HO_4.out⟩, ⟨by exact BK270.out⟩, ⟨bs⟩⟩
      ·rw [if_neg c22] at H
       have c22b0 := decide_eq_false c22; clear c22; have H' := ak H; clear H; go_wp2
       (try simp only [← hl3_1, ← hl3_2])
       go_roundg k2
       case measure => have := HK1.out; have := HK2.out; omega
       case rel => exact ⟨(x3_2), (x4_2), ((wrap64 (x5_1 + 1))), sq, H', ⟨by have := HK1.out; have := HK2.out; omega⟩, ⟨by (try simp only [hl3_1]); (try simp only [hl3_2]); exact HO_3.out⟩, ⟨by exact HO_4.out⟩, ⟨bs⟩⟩
   ·rw [if_neg c12] at H
    have c12b0 : decide (0 < (x4_1.length : Int)) = false := decide_eq_false c12; have c12b1 : decide (0 < x4_1.length) = false := decide_eq_false (by omega); clear c12; obtain rfl := Option.some.inj H; obtain ⟨Ao49, co49, eo49, _⟩ := Kd.Q_slice HO_4.out; subst eo49; go_wp2; go_ret; exact ⟨eq_, bq⟩
section
attribute [local go_sem high] eqA37
/-! ### impl_IsBody: function 8 -/
def impl_IsBody.l0 : Nat → List (S37) → List (S37) → Int → Int → Option (Bool)
 | 0, _, _, _, _ => none
 | k + 1, x0, x9, x10, x11 => if x11 < x10 then (if 0 ≤ x11 then (if x11 < (x9.length : Int) then ((impl_within.f ((rd_T37 x9 x11).f0) 0 12).bind fun t287 => (if t287 = true then ((impl_within.f ((rd_T37 x9 x11).f1) 0 12).bind fun t288 => (if t288 = true then (if x11 > 0 then (if 0 ≤ (wrap64 (x11 - 1)) then (if (wrap64 (x11 - 1)) < (x0.length : Int) then ((impl_compareCells.f k ((rd_T37 x0 (wrap64 (x11 - 1))).f0) ((rd_T37 x0 (wrap64 (x11 - 1))).f1) ((rd_T37 x9 x11).f0) ((rd_T37 x9 x11).f1)).bind fun t290 => (if t290 ≥ 0 then (some false) else (impl_IsBody.l0 k x0 x9 x10 (wrap64 (x11 + 1))))) else (none)) else (none)) else (impl_IsBody.l0 k x0 x9 x10 (wrap64 (x11 + 1)))) else (some false))) else (some false))) else (none)) else (none)) else ((impl_leastOf.f k x0).bind fun bt282 => (if (bt282.1 == 0 && (bt282.2 == 0)) = true then ((impl_hangs.f k x0).bind fun t284 => (some t284)) else (some false)))
def impl_IsBody.f (k : Nat) (l0 : List (S37)) : Option (Bool) := (impl_within.f (l0.length : Int) 1 12).bind fun t281 => (if t281 = true then (impl_IsBody.l0 k l0 l0 (l0.length : Int) 0) else (some false))
def impl_IsBody.T6 : Bool × List (List Nat × List Nat) := (true, [([], []), ([0], [0]), ([1], [1]), ([2], [2]), ([3, 2], [3]), ([4], [4]), ([5, 4], [4, 5]), ([6, 4, 4], [4, 6]), ([7, 4], [4, 7]), ([4, 8], [4, 8]), ([9, 7], [9]), ([10], [10]), ([11, 10], [10, 11]), ([12, 10, 10], [10, 12]), ([13], [13]), ([13], [13]), ([15, 13], [13, 15]), ([14, 16, 13], [13, 14, 16]), ([17, 13], [13, 17]), ([13], [13]), ([18, 19, 13, 13], [13, 18, 19]), ([20, 13], [13, 20]), ([13, 21, 10], [10, 13, 21]), ([10, 22], [10, 22])])
def impl_IsBody.B6 : List Nat := [0, 1, 3, 7, 15, 31, 63, 127, 255, 511, 1023, 2047, 4095, 8191, 16383, 16383, 49151, 131071, 262143, 16383, 1048575, 2097151, 4194303, 8388607]
theorem impl_IsBody.tab6 : rtab .any (opsOf Tryz.f8 6) = impl_IsBody.T6 := by kernel_rfl
theorem impl_IsBody.bits6 : waitsOk impl_IsBody.T6.2 impl_IsBody.B6 = true := by kernel_rfl
theorem impl_IsBody.calls (k : Nat) (A0 : Option Addr) (c0 : Nat) (l0 : List (S37)) (r : Bool) (w : World) (hr0 : Kd.C k37 w A0 l0.length l0) (hc0 : l0.length ≤ c0) (h : impl_IsBody.f k l0 = some r) :
  Calls Tryz.prog 8 #[.slice A0 l0.length c0] w fun e w' => e = .returned (.bool r) ∧ Below w.heap.size w w' := by
 have hu37 := Tryz.underlying37; have HR0 := ak hr0; have HC0 := ak hc0; clear hr0 hc0; have HB := ak (Below.refl w.heap.size w); have H : ((impl_within.f (l0.length : Int) 1 12).bind fun t281 => (if t281 = true then (impl_IsBody.l0 k l0 l0 (l0.length : Int) 0) else (some false))) = some r := h; clear h; obtain ⟨t281, A20, H⟩ := Option.bind_eq_some_iff.mp H
 have A2 := ak A20; clear A20
 by_cases c3 : t281 = true
 ·subst c3
  rw [if_pos rfl] at H; have H' := ak H; clear H
  go_enter Tryz.func8, Tryz.ntmps8
  go_wp2_with (((with_reducible refine gate_callee (f := 26) rfl ?_); refine goesL_ (some 7) rfl rfl Tryz.func26 (by kernel_rfl) rfl #[.int .i64 (l0.length : Int), .int .i64 1, .int .i64 12] rfl aq ?_; (with_reducible refine (impl_within.calls (l0.length : Int) 1 12 true _ A2.out).mono ?_); rintro e w' ⟨rfl, ⟨nd, rfl⟩⟩; refine ⟨_, rfl, ?_⟩))
  go_loopg [11] k (fun kq v11 w' => ∃ (x11_1 : Int), v11 = .int .i64 x11_1 ∧ Aside0 (impl_IsBody.l0 kq l0 l0 (l0.length : Int) x11_1 = some r) ∧ Aside0 (kq ≤ k) ∧ Aside0 (Below w.heap.size w w'))
  case atStart => exact ⟨(0), sq, H', ⟨Nat.le_refl _⟩, ⟨bq⟩⟩
  case round =>
   clear H'; obtain ⟨x11_1, rfl, HA, HK1, HB⟩ := hrel
   cases gk with
   | zero => exact absurd HA.out (by simp [impl_IsBody.l0])
   | succ k1 =>
    have H := HA.out; clear HA; simp only [impl_IsBody.l0] at H
    by_cases c4 : x11_1 < (l0.length : Int)
    ·rw [if_pos c4] at H
     have c4b0 := decide_eq_true c4; clear c4
     revert H; refine ig_ fun c5 H => ?_
     have c5b0 := decide_eq_true c5; clear c5
     revert H; refine ig_ fun c6 H => ?_
     have c6b0 := decide_eq_true c6; clear c6; obtain ⟨t287, A70, H⟩ := Option.bind_eq_some_iff.mp H
     have A7 := ak A70; clear A70
     by_cases c8 : t287 = true
     ·subst c8
      rw [if_pos rfl] at H; obtain ⟨t288, A90, H⟩ := Option.bind_eq_some_iff.mp H
      have A9 := ak A90; clear A90
      by_cases c10 : t288 = true
      ·subst c10
       rw [if_pos rfl] at H
       by_cases c11 : x11_1 > 0
       ·rw [if_pos c11] at H
        have c11b0 : decide (0 < x11_1) = true := decide_eq_true c11; clear c11; obtain ⟨ji12, hji12⟩ : ∃ j_ : Int, (wrap64 (x11_1 - 1)) = j_ := ⟨_, rfl⟩
        (rw [hji12] at H)
        have hji12w : (IntKind.i64.wrap (x11_1 - 1)) = ji12 := (i64_w _).trans hji12
        revert H; refine ig_ fun c13 H => ?_
        have c13b0 := decide_eq_true c13; clear c13
        revert H; refine ig_ fun c14 H => ?_
        have c14b0 := decide_eq_true c14; clear c14; obtain ⟨t290, A150, H⟩ := Option.bind_eq_some_iff.mp H
        have A15 := ak A150; clear A150
        by_cases c16 : t290 ≥ 0
        ·rw [if_pos c16] at H
         have c16b0 : decide (0 ≤ t290) = true := decide_eq_true c16; clear c16; obtain rfl := Option.some.inj H; have p285 : 0 ≤ (x11_1 : Int) := dq; have q285 : x11_1 < (l0.length : Int) := dq; obtain ⟨ad285, e285, hx285_0, hx285_1⟩ := at_T37 HR0.out x11_1 p285 q285; cases e285; replace hx285_0 := hb_ HB hx285_0; replace hx285_1 := hb_ HB hx285_1; replace p285 := eq_true p285; replace q285 := eq_true q285
         try go_wp2_with (((with_reducible refine gate_dst (N := 4) rfl ?_); refine box_event ?hg (N := 4) ?hd (cs := #[.int .i64 0, .int .i64 0]) (t := 37) ?hr ?_; (case hd => rfl); (case hg => rfl); (case hr => (go_simp; done)); intro gb286 hg w17 hbox hb; have n0_ := ak (below_step bq hb); have n1_ := ak (hbox); have n2_ := ak ((by rw [hg]; exact (below_size bq) : w.heap.size ≤ gb286)); have n3_ := ak ((by rw [hg]; exact (below_size bq) : w.heap.size ≤ gb286)); clear HB; have HB := n0_; have BK286 := n1_; have GW286 := n2_; have GE286 := n3_; clear n0_ n1_ n2_ n3_; clear hb hbox hg; have hcz18_0 : w17.cell? ⟨gb286, 0, none⟩ = some (.int .i64 0) := (blk_cell BK286.out 0).trans rfl; have hcz18_1 : w17.cell? ⟨gb286, 1, none⟩ = some (.int .i64 0) := (blk_cell BK286.out 1).trans rfl; have hfz18_0 := blk_frozen BK286.out 0; have hfz18_1 := blk_frozen BK286.out 1))
         have n0_ : Aside0 (((w17.setCell ⟨gb286, 0, none⟩ (.int .i64 ((rd_T37 l0 x11_1).f0))).setCell ⟨gb286, 1, none⟩ (.int .i64 ((rd_T37 l0 x11_1).f1))).heap[gb286]? = some (.cells #[.int .i64 ((rd_T37 l0 x11_1).f0), .int .i64 ((rd_T37 l0 x11_1).f1)] 37 (0, 0))) := ⟨by refine blk_put (cs := #[.int .i64 ((rd_T37 l0 x11_1).f0), .int .i64 0]) ?_ 1 _ rfl; refine blk_put (cs := #[.int .i64 0, .int .i64 0]) ?_ 0 _ rfl; exact BK286.out⟩; have n1_ : Aside0 (Below w.heap.size w ((w17.setCell ⟨gb286, 0, none⟩ (.int .i64 ((rd_T37 l0 x11_1).f0))).setCell ⟨gb286, 1, none⟩ (.int .i64 ((rd_T37 l0 x11_1).f1)))) := ⟨bs⟩
         (try clear BK286)
         (try clear HB)
         generalize ((w17.setCell ⟨gb286, 0, none⟩ (.int .i64 ((rd_T37 l0 x11_1).f0))).setCell ⟨gb286, 1, none⟩ (.int .i64 ((rd_T37 l0 x11_1).f1))) = w19 at n0_ n1_ ⊢
         have BK286 := n0_; have HB := n1_; clear n0_ n1_; have n0_ := ak (blk_drew BK286.out); have n1_ := ak (below_drew1 HB.out); clear BK286; clear HB; have BK286 := n0_; have HB := n1_; clear n0_ n1_; have p289 : 0 ≤ ((ji12) : Int) := dq; have q289 : (ji12) < (l0.length : Int) := dq; obtain ⟨ad289, e289, hx289_0, hx289_1⟩ := at_T37 HR0.out (ji12) p289 q289; have hw289_1 := hx289_1; have hw289_0 := hx289_0; obtain rfl : ad285 = ad289 := (by injection e289); replace hx289_0 := hb_ HB hx289_0; replace hx289_1 := hb_ HB hx289_1; replace p289 := eq_true p289; replace q289 := eq_true q289; refine start_ (n := 24) (S := fun w' => w'.cell? ⟨gb286, 0, none⟩ = some (.int .i64 ((rd_T37 l0 x11_1).f0)) ∧ w'.cell? ⟨gb286, 1, none⟩ = some (.int .i64 ((rd_T37 l0 x11_1).f1)) ∧ w'.cell? (ad285.add (((ji12)).toNat * 2)) = some (.int .i64 ((rd_T37 l0 (ji12)).f0)) ∧ w'.cell? ⟨(ad285.add (((ji12)).toNat * 2)).block, (ad285.add (((ji12)).toNat * 2)).off + 1, none⟩ = some (.int .i64 ((rd_T37 l0 (ji12)).f1))) (ds := []) #[Z,Z,Z,Z,Z,Z,Z,Z,Z,Z,Z,Z,Z,Z,Z,Z,Z,Z,Z,Z,Z,Z,Z,Z] (by kernel_rfl) rfl rfl ⟨(blk_cell BK286.out 0).trans rfl, (blk_cell BK286.out 1).trans rfl, ((hb_ HB hw289_0).trans rfl), ((hb_ HB hw289_1).trans rfl)⟩ (fun hHeld => ?_); refine with_tabW impl_IsBody.tab6 impl_IsBody.bits6 (fun HT_ HW_ => ?_)
         generalize w19.drew = w20 at BK286 HB hx289_0 hx289_1 hHeld ⊢
         refine pq_ (i := 0) (N := some 16) #[Y,Z,Z,Z,Z,Z,Z,Z,Z,Z,Z,Z,Z,Z,Z,Z,Z,Z,Z,Z,Z,Z,Z,Z] HT_ ?_; refine tk_ (i := 1) (N := some 17) #[Y,Y,Z,Z,Z,Z,Z,Z,Z,Z,Z,Z,Z,Z,Z,Z,Z,Z,Z,Z,Z,Z,Z,Z] HT_ HW_ hHeld ?_; refine one_ (i := 2) (N := some 18) #[Y,Y,Y,Z,Z,Z,Z,Z,Z,Z,Z,Z,Z,Z,Z,Z,Z,Z,Z,Z,Z,Z,Z,Z] rfl rfl (one_of HT_.out (by kernel_rfl)) (by decide) (fun K hK => ?_); refine goes_ Tryz.func26 (by kernel_rfl) rfl #[.int .i64 ((rd_T37 l0 x11_1).f0), .int .i64 0, .int .i64 12] (by rfl) rfl rfl aq ?_
         with_reducible refine (impl_within.calls ((rd_T37 l0 x11_1).f0) 0 12 true _ A7.out).mono ?_
         rintro e w' ⟨rfl, ⟨nd, rfl⟩⟩
         refine ⟨_, rfl, ?_⟩; refine hK.out _ _ ⟨(blk_cell BK286.out 0).trans rfl, (blk_cell BK286.out 1).trans rfl, ((hb_ HB hw289_0).trans rfl), ((hb_ HB hw289_1).trans rfl)⟩ (fun hHeld => ?_); clear hK K; refine norm_ (a' := ?_) ?_ ?_; rotate_left
         ·show Act.put _ (some 18) _ = _
          simp only [Act.put, sA, sZ, sS, i64_w, i32_w]
          rfl
         refine pq_ (i := 3) (N := some 19) #[Y,Y,Y,Y,Z,Z,Z,Z,Z,Z,Z,Z,Z,Z,Z,Z,Z,Z,Z,Z,Z,Z,Z,Z] HT_ ?_; refine pq_ (i := 4) (N := some 20) #[Y,Y,Y,Y,Y,Z,Z,Z,Z,Z,Z,Z,Z,Z,Z,Z,Z,Z,Z,Z,Z,Z,Z,Z] HT_ ?_; refine pq_ (i := 5) (N := some 21) #[Y,Y,Y,Y,Y,Y,Z,Z,Z,Z,Z,Z,Z,Z,Z,Z,Z,Z,Z,Z,Z,Z,Z,Z] HT_ ?_; refine tk_ (i := 6) (N := some 22) #[Y,Y,Y,Y,Y,Y,Y,Z,Z,Z,Z,Z,Z,Z,Z,Z,Z,Z,Z,Z,Z,Z,Z,Z] HT_ HW_ hHeld ?_; refine one_ (i := 7) (N := some 23) #[Y,Y,Y,Y,Y,Y,Y,Y,Z,Z,Z,Z,Z,Z,Z,Z,Z,Z,Z,Z,Z,Z,Z,Z] rfl rfl (one_of HT_.out (by kernel_rfl)) (by decide) (fun K hK => ?_); refine goes_ Tryz.func26 (by kernel_rfl) rfl #[.int .i64 ((rd_T37 l0 x11_1).f1), .int .i64 0, .int .i64 12] (by rfl) rfl rfl aq ?_
         with_reducible refine (impl_within.calls ((rd_T37 l0 x11_1).f1) 0 12 true _ A9.out).mono ?_
         rintro e w' ⟨rfl, ⟨nd, rfl⟩⟩
         refine ⟨_, rfl, ?_⟩; refine hK.out _ _ ⟨(blk_cell BK286.out 0).trans rfl, (blk_cell BK286.out 1).trans rfl, ((hb_ HB hw289_0).trans rfl), ((hb_ HB hw289_1).trans rfl)⟩ (fun hHeld => ?_); clear hK K; refine norm_ (a' := ?_) ?_ ?_; rotate_left
         ·show Act.put _ (some 23) _ = _
          simp only [Act.put, sA, sZ, sS, i64_w, i32_w]
          rfl
         refine pq_ (i := 8) (N := some 24) #[Y,Y,Y,Y,Y,Y,Y,Y,Y,Z,Z,Z,Z,Z,Z,Z,Z,Z,Z,Z,Z,Z,Z,Z] HT_ ?_; refine pq_ (i := 9) (N := some 25) #[Y,Y,Y,Y,Y,Y,Y,Y,Y,Y,Z,Z,Z,Z,Z,Z,Z,Z,Z,Z,Z,Z,Z,Z] HT_ ?_; refine pq_ (i := 10) (N := some 26) #[Y,Y,Y,Y,Y,Y,Y,Y,Y,Y,Y,Z,Z,Z,Z,Z,Z,Z,Z,Z,Z,Z,Z,Z] HT_ ?_; refine pq_ (i := 11) (N := some 27) #[Y,Y,Y,Y,Y,Y,Y,Y,Y,Y,Y,Y,Z,Z,Z,Z,Z,Z,Z,Z,Z,Z,Z,Z] HT_ ?_; refine pq_ (i := 12) (N := some 28) #[Y,Y,Y,Y,Y,Y,Y,Y,Y,Y,Y,Y,Y,Z,Z,Z,Z,Z,Z,Z,Z,Z,Z,Z] HT_ ?_; refine pq_ (i := 13) (N := some 29) #[Y,Y,Y,Y,Y,Y,Y,Y,Y,Y,Y,Y,Y,Y,Z,Z,Z,Z,Z,Z,Z,Z,Z,Z] HT_ ?_; refine pq_ (i := 14) (N := some 30) #[Y,Y,Y,Y,Y,Y,Y,Y,Y,Y,Y,Y,Y,Y,Y,Z,Z,Z,Z,Z,Z,Z,Z,Z] HT_ ?_; refine pq_ (i := 15) (N := some 31) #[Y,Y,Y,Y,Y,Y,Y,Y,Y,Y,Y,Y,Y,Y,Y,Y,Z,Z,Z,Z,Z,Z,Z,Z] HT_ ?_; refine pq_ (i := 16) (N := some 32) #[Y,Y,Y,Y,Y,Y,Y,Y,Y,Y,Y,Y,Y,Y,Y,Y,Y,Z,Z,Z,Z,Z,Z,Z] HT_ ?_; refine pq_ (i := 17) (N := some 33) #[Y,Y,Y,Y,Y,Y,Y,Y,Y,Y,Y,Y,Y,Y,Y,Y,Y,Y,Z,Z,Z,Z,Z,Z] HT_ ?_; refine tk_ (i := 18) (N := some 34) #[Y,Y,Y,Y,Y,Y,Y,Y,Y,Y,Y,Y,Y,Y,Y,Y,Y,Y,Y,Z,Z,Z,Z,Z] HT_ HW_ hHeld ?_; refine tk_ (i := 19) (N := some 35) #[Y,Y,Y,Y,Y,Y,Y,Y,Y,Y,Y,Y,Y,Y,Y,Y,Y,Y,Y,Y,Z,Z,Z,Z] HT_ HW_ hHeld ?_; refine one_ (i := 20) (N := some 36) #[Y,Y,Y,Y,Y,Y,Y,Y,Y,Y,Y,Y,Y,Y,Y,Y,Y,Y,Y,Y,Y,Z,Z,Z] rfl rfl (one_of HT_.out (by kernel_rfl)) (by decide) (fun K hK => ?_); refine goes_ Tryz.func27 (by kernel_rfl) rfl #[.agg #[.int .i64 ((rd_T37 l0 (ji12)).f0), .int .i64 ((rd_T37 l0 (ji12)).f1)], .agg #[.int .i64 ((rd_T37 l0 x11_1).f0), .int .i64 ((rd_T37 l0 x11_1).f1)]] (by rfl) rfl rfl (by (try simp only [List.map_toArray, List.map_cons, List.map_nil]); rfl) ?_
         with_reducible refine (impl_compareCells.calls k1 ((rd_T37 l0 (ji12)).f0) ((rd_T37 l0 (ji12)).f1) ((rd_T37 l0 x11_1).f0) ((rd_T37 l0 x11_1).f1) t290 _ A15.out).mono ?_
         rintro e w21 ⟨rfl, hb⟩
         refine ⟨_, rfl, ?_⟩; have n0_ := ak (blk_below (g := gb286) (o := .cells #[.int .i64 ((rd_T37 l0 x11_1).f0), .int .i64 ((rd_T37 l0 x11_1).f1)] 37 (0, 0)) (uq BK286) hb); have n1_ := ak (below_step bs hb); clear BK286; clear HB; have BK286 := n0_; have HB := n1_; clear n0_ n1_
         (try clear hb)
         refine hK.out _ _ ⟨(blk_cell BK286.out 0).trans rfl, (blk_cell BK286.out 1).trans rfl, ((hb_ HB hw289_0).trans rfl), ((hb_ HB hw289_1).trans rfl)⟩ (fun hHeld => ?_); clear hK K; refine norm_ (a' := ?_) ?_ ?_; rotate_left
         ·show Act.put _ (some 36) _ = _
          simp only [Act.put, sA, sZ, sS, i64_w, i32_w]
          rfl
         refine pq_ (i := 21) (N := some 37) #[Y,Y,Y,Y,Y,Y,Y,Y,Y,Y,Y,Y,Y,Y,Y,Y,Y,Y,Y,Y,Y,Y,Z,Z] HT_ ?_; refine pq_ (i := 22) (N := some 38) #[Y,Y,Y,Y,Y,Y,Y,Y,Y,Y,Y,Y,Y,Y,Y,Y,Y,Y,Y,Y,Y,Y,Y,Z] HT_ ?_; refine pq_ (i := 23) (N := some 39) #[Y,Y,Y,Y,Y,Y,Y,Y,Y,Y,Y,Y,Y,Y,Y,Y,Y,Y,Y,Y,Y,Y,Y,Y] HT_ ?_; refine done_ (done_of HT_.out (by kernel_rfl)) ?_; (try go_wp2); go_ret; exact ⟨by first | rfl | (simp [errW_none, errW_some] <;> rfl) | (fail) | (simp [*, errW_none, errW_some] <;> rfl), bs⟩
        ·rw [if_neg c16] at H
         have c16b0 : decide (0 ≤ t290) = false := decide_eq_false c16; clear c16; have H' := ak H; clear H; have p285 : 0 ≤ (x11_1 : Int) := dq; have q285 : x11_1 < (l0.length : Int) := dq; obtain ⟨ad285, e285, hx285_0, hx285_1⟩ := at_T37 HR0.out x11_1 p285 q285; cases e285; replace hx285_0 := hb_ HB hx285_0; replace hx285_1 := hb_ HB hx285_1; replace p285 := eq_true p285; replace q285 := eq_true q285
         try go_wp2_with (((with_reducible refine gate_dst (N := 4) rfl ?_); refine box_event ?hg (N := 4) ?hd (cs := #[.int .i64 0, .int .i64 0]) (t := 37) ?hr ?_; (case hd => rfl); (case hg => rfl); (case hr => (go_simp; done)); intro gb286 hg w22 hbox hb; have n0_ := ak (below_step bq hb); have n1_ := ak (hbox); have n2_ := ak ((by rw [hg]; exact (below_size bq) : w.heap.size ≤ gb286)); have n3_ := ak ((by rw [hg]; exact (below_size bq) : w.heap.size ≤ gb286)); clear HB; have HB := n0_; have BK286 := n1_; have GW286 := n2_; have GE286 := n3_; clear n0_ n1_ n2_ n3_; clear hb hbox hg; have hcz23_0 : w22.cell? ⟨gb286, 0, none⟩ = some (.int .i64 0) := (blk_cell BK286.out 0).trans rfl; have hcz23_1 : w22.cell? ⟨gb286, 1, none⟩ = some (.int .i64 0) := (blk_cell BK286.out 1).trans rfl; have hfz23_0 := blk_frozen BK286.out 0; have hfz23_1 := blk_frozen BK286.out 1))
         have n0_ : Aside0 (((w22.setCell ⟨gb286, 0, none⟩ (.int .i64 ((rd_T37 l0 x11_1).f0))).setCell ⟨gb286, 1, none⟩ (.int .i64 ((rd_T37 l0 x11_1).f1))).heap[gb286]? = some (.cells #[.int .i64 ((rd_T37 l0 x11_1).f0), .int .i64 ((rd_T37 l0 x11_1).f1)] 37 (0, 0))) := ⟨by refine blk_put (cs := #[.int .i64 ((rd_T37 l0 x11_1).f0), .int .i64 0]) ?_ 1 _ rfl; refine blk_put (cs := #[.int .i64 0, .int .i64 0]) ?_ 0 _ rfl; exact BK286.out⟩; have n1_ : Aside0 (Below w.heap.size w ((w22.setCell ⟨gb286, 0, none⟩ (.int .i64 ((rd_T37 l0 x11_1).f0))).setCell ⟨gb286, 1, none⟩ (.int .i64 ((rd_T37 l0 x11_1).f1)))) := ⟨bs⟩
         (try clear BK286)
         (try clear HB)
         generalize ((w22.setCell ⟨gb286, 0, none⟩ (.int .i64 ((rd_T37 l0 x11_1).f0))).setCell ⟨gb286, 1, none⟩ (.int .i64 ((rd_T37 l0 x11_1).f1))) = w24 at n0_ n1_ ⊢
         have BK286 := n0_; have HB := n1_; clear n0_ n1_; have n0_ := ak (blk_drew BK286.out); have n1_ := ak (below_drew1 HB.out); clear BK286; clear HB; have BK286 := n0_; have HB := n1_; clear n0_ n1_; have p289 : 0 ≤ ((ji12) : Int) := dq; have q289 : (ji12) < (l0.length : Int) := dq; obtain ⟨ad289, e289, hx289_0, hx289_1⟩ := at_T37 HR0.out (ji12) p289 q289; have hw289_1 := hx289_1; have hw289_0 := hx289_0; obtain rfl : ad285 = ad289 := (by injection e289); replace hx289_0 := hb_ HB hx289_0; replace hx289_1 := hb_ HB hx289_1; replace p289 := eq_true p289; replace q289 := eq_true q289; refine start_ (n := 24) (S := fun w' => w'.cell? ⟨gb286, 0, none⟩ = some (.int .i64 ((rd_T37 l0 x11_1).f0)) ∧ w'.cell? ⟨gb286, 1, none⟩ = some (.int .i64 ((rd_T37 l0 x11_1).f1)) ∧ w'.cell? (ad285.add (((ji12)).toNat * 2)) = some (.int .i64 ((rd_T37 l0 (ji12)).f0)) ∧ w'.cell? ⟨(ad285.add (((ji12)).toNat * 2)).block, (ad285.add (((ji12)).toNat * 2)).off + 1, none⟩ = some (.int .i64 ((rd_T37 l0 (ji12)).f1))) (ds := []) #[Z,Z,Z,Z,Z,Z,Z,Z,Z,Z,Z,Z,Z,Z,Z,Z,Z,Z,Z,Z,Z,Z,Z,Z] (by kernel_rfl) rfl rfl ⟨(blk_cell BK286.out 0).trans rfl, (blk_cell BK286.out 1).trans rfl, ((hb_ HB hw289_0).trans rfl), ((hb_ HB hw289_1).trans rfl)⟩ (fun hHeld => ?_); refine with_tabW impl_IsBody.tab6 impl_IsBody.bits6 (fun HT_ HW_ => ?_)
         generalize w24.drew = w25 at BK286 HB hx289_0 hx289_1 hHeld ⊢
         refine pq_ (i := 0) (N := some 16) #[Y,Z,Z,Z,Z,Z,Z,Z,Z,Z,Z,Z,Z,Z,Z,Z,Z,Z,Z,Z,Z,Z,Z,Z] HT_ ?_; refine tk_ (i := 1) (N := some 17) #[Y,Y,Z,Z,Z,Z,Z,Z,Z,Z,Z,Z,Z,Z,Z,Z,Z,Z,Z,Z,Z,Z,Z,Z] HT_ HW_ hHeld ?_; refine one_ (i := 2) (N := some 18) #[Y,Y,Y,Z,Z,Z,Z,Z,Z,Z,Z,Z,Z,Z,Z,Z,Z,Z,Z,Z,Z,Z,Z,Z] rfl rfl (one_of HT_.out (by kernel_rfl)) (by decide) (fun K hK => ?_); refine goes_ Tryz.func26 (by kernel_rfl) rfl #[.int .i64 ((rd_T37 l0 x11_1).f0), .int .i64 0, .int .i64 12] (by rfl) rfl rfl aq ?_
         with_reducible refine (impl_within.calls ((rd_T37 l0 x11_1).f0) 0 12 true _ A7.out).mono ?_
         rintro e w' ⟨rfl, ⟨nd, rfl⟩⟩
         refine ⟨_, rfl, ?_⟩; refine hK.out _ _ ⟨(blk_cell BK286.out 0).trans rfl, (blk_cell BK286.out 1).trans rfl, ((hb_ HB hw289_0).trans rfl), ((hb_ HB hw289_1).trans rfl)⟩ (fun hHeld => ?_); clear hK K; refine norm_ (a' := ?_) ?_ ?_; rotate_left
         ·show Act.put _ (some 18) _ = _
          simp only [Act.put, sA, sZ, sS, i64_w, i32_w]
          rfl
         refine pq_ (i := 3) (N := some 19) #[Y,Y,Y,Y,Z,Z,Z,Z,Z,Z,Z,Z,Z,Z,Z,Z,Z,Z,Z,Z,Z,Z,Z,Z] HT_ ?_; refine pq_ (i := 4) (N := some 20) #[Y,Y,Y,Y,Y,Z,Z,Z,Z,Z,Z,Z,Z,Z,Z,Z,Z,Z,Z,Z,Z,Z,Z,Z] HT_ ?_; refine pq_ (i := 5) (N := some 21) #[Y,Y,Y,Y,Y,Y,Z,Z,Z,Z,Z,Z,Z,Z,Z,Z,Z,Z,Z,Z,Z,Z,Z,Z] HT_ ?_; refine tk_ (i := 6) (N := some 22) #[Y,Y,Y,Y,Y,Y,Y,Z,Z,Z,Z,Z,Z,Z,Z,Z,Z,Z,Z,Z,Z,Z,Z,Z] HT_ HW_ hHeld ?_; refine one_ (i := 7) (N := some 23) #[Y,Y,Y,Y,Y,Y,Y,Y,Z,Z,Z,Z,Z,Z,Z,Z,Z,Z,Z,Z,Z,Z,Z,Z] rfl rfl (one_of HT_.out (by kernel_rfl)) (by decide) (fun K hK => ?_); refine goes_ Tryz.func26 (by kernel_rfl) rfl #[.int .i64 ((rd_T37 l0 x11_1).f1), .int .i64 0, .int .i64 12] (by rfl) rfl rfl aq ?_
         with_reducible refine (impl_within.calls ((rd_T37 l0 x11_1).f1) 0 12 true _ A9.out).mono ?_
         rintro e w' ⟨rfl, ⟨nd, rfl⟩⟩
         refine ⟨_, rfl, ?_⟩; refine hK.out _ _ ⟨(blk_cell BK286.out 0).trans rfl, (blk_cell BK286.out 1).trans rfl, ((hb_ HB hw289_0).trans rfl), ((hb_ HB hw289_1).trans rfl)⟩ (fun hHeld => ?_); clear hK K; refine norm_ (a' := ?_) ?_ ?_; rotate_left
         ·show Act.put _ (some 23) _ = _
          simp only [Act.put, sA, sZ, sS, i64_w, i32_w]
          rfl
         refine pq_ (i := 8) (N := some 24) #[Y,Y,Y,Y,Y,Y,Y,Y,Y,Z,Z,Z,Z,Z,Z,Z,Z,Z,Z,Z,Z,Z,Z,Z] HT_ ?_; refine pq_ (i := 9) (N := some 25) #[Y,Y,Y,Y,Y,Y,Y,Y,Y,Y,Z,Z,Z,Z,Z,Z,Z,Z,Z,Z,Z,Z,Z,Z] HT_ ?_; refine pq_ (i := 10) (N := some 26) #[Y,Y,Y,Y,Y,Y,Y,Y,Y,Y,Y,Z,Z,Z,Z,Z,Z,Z,Z,Z,Z,Z,Z,Z] HT_ ?_; refine pq_ (i := 11) (N := some 27) #[Y,Y,Y,Y,Y,Y,Y,Y,Y,Y,Y,Y,Z,Z,Z,Z,Z,Z,Z,Z,Z,Z,Z,Z] HT_ ?_; refine pq_ (i := 12) (N := some 28) #[Y,Y,Y,Y,Y,Y,Y,Y,Y,Y,Y,Y,Y,Z,Z,Z,Z,Z,Z,Z,Z,Z,Z,Z] HT_ ?_; refine pq_ (i := 13) (N := some 29) #[Y,Y,Y,Y,Y,Y,Y,Y,Y,Y,Y,Y,Y,Y,Z,Z,Z,Z,Z,Z,Z,Z,Z,Z] HT_ ?_; refine pq_ (i := 14) (N := some 30) #[Y,Y,Y,Y,Y,Y,Y,Y,Y,Y,Y,Y,Y,Y,Y,Z,Z,Z,Z,Z,Z,Z,Z,Z] HT_ ?_; refine pq_ (i := 15) (N := some 31) #[Y,Y,Y,Y,Y,Y,Y,Y,Y,Y,Y,Y,Y,Y,Y,Y,Z,Z,Z,Z,Z,Z,Z,Z] HT_ ?_; refine pq_ (i := 16) (N := some 32) #[Y,Y,Y,Y,Y,Y,Y,Y,Y,Y,Y,Y,Y,Y,Y,Y,Y,Z,Z,Z,Z,Z,Z,Z] HT_ ?_; refine pq_ (i := 17) (N := some 33) #[Y,Y,Y,Y,Y,Y,Y,Y,Y,Y,Y,Y,Y,Y,Y,Y,Y,Y,Z,Z,Z,Z,Z,Z] HT_ ?_; refine tk_ (i := 18) (N := some 34) #[Y,Y,Y,Y,Y,Y,Y,Y,Y,Y,Y,Y,Y,Y,Y,Y,Y,Y,Y,Z,Z,Z,Z,Z] HT_ HW_ hHeld ?_; refine tk_ (i := 19) (N := some 35) #[Y,Y,Y,Y,Y,Y,Y,Y,Y,Y,Y,Y,Y,Y,Y,Y,Y,Y,Y,Y,Z,Z,Z,Z] HT_ HW_ hHeld ?_; refine one_ (i := 20) (N := some 36) #[Y,Y,Y,Y,Y,Y,Y,Y,Y,Y,Y,Y,Y,Y,Y,Y,Y,Y,Y,Y,Y,Z,Z,Z] rfl rfl (one_of HT_.out (by kernel_rfl)) (by decide) (fun K hK => ?_); refine goes_ Tryz.func27 (by kernel_rfl) rfl #[.agg #[.int .i64 ((rd_T37 l0 (ji12)).f0), .int .i64 ((rd_T37 l0 (ji12)).f1)], .agg #[.int .i64 ((rd_T37 l0 x11_1).f0), .int .i64 ((rd_T37 l0 x11_1).f1)]] (by rfl) rfl rfl (by (try simp only [List.map_toArray, List.map_cons, List.map_nil]); rfl) ?_
         with_reducible refine (impl_compareCells.calls k1 ((rd_T37 l0 (ji12)).f0) ((rd_T37 l0 (ji12)).f1) ((rd_T37 l0 x11_1).f0) ((rd_T37 l0 x11_1).f1) t290 _ A15.out).mono ?_
         rintro e w26 ⟨rfl, hb⟩
         refine ⟨_, rfl, ?_⟩; have n0_ := ak (blk_below (g := gb286) (o := .cells #[.int .i64 ((rd_T37 l0 x11_1).f0), .int .i64 ((rd_T37 l0 x11_1).f1)] 37 (0, 0)) (uq BK286) hb); have n1_ := ak (below_step bs hb); clear BK286; clear HB; have BK286 := n0_; have HB := n1_; clear n0_ n1_
         (try clear hb)
         refine hK.out _ _ ⟨(blk_cell BK286.out 0).trans rfl, (blk_cell BK286.out 1).trans rfl, ((hb_ HB hw289_0).trans rfl), ((hb_ HB hw289_1).trans rfl)⟩ (fun hHeld => ?_); clear hK K; refine norm_ (a' := ?_) ?_ ?_; rotate_left
         ·show Act.put _ (some 36) _ = _
          simp only [Act.put, sA, sZ, sS, i64_w, i32_w]
          rfl
         refine pq_ (i := 21) (N := some 37) #[Y,Y,Y,Y,Y,Y,Y,Y,Y,Y,Y,Y,Y,Y,Y,Y,Y,Y,Y,Y,Y,Y,Z,Z] HT_ ?_; refine pq_ (i := 22) (N := some 38) #[Y,Y,Y,Y,Y,Y,Y,Y,Y,Y,Y,Y,Y,Y,Y,Y,Y,Y,Y,Y,Y,Y,Y,Z] HT_ ?_; refine pq_ (i := 23) (N := some 39) #[Y,Y,Y,Y,Y,Y,Y,Y,Y,Y,Y,Y,Y,Y,Y,Y,Y,Y,Y,Y,Y,Y,Y,Y] HT_ ?_; refine done_ (done_of HT_.out (by kernel_rfl)) ?_; (try go_wp2); go_roundg k1
         case measure => have := HK1.out; omega
         case rel => exact ⟨(wrap64 (x11_1 + 1)), sq, H', ⟨by have := HK1.out; omega⟩, ⟨bs⟩⟩
       ·rw [if_neg c11] at H
        have c11b0 : decide (0 < x11_1) = false := decide_eq_false c11; clear c11; have H' := ak H; clear H; have p285 : 0 ≤ (x11_1 : Int) := dq; have q285 : x11_1 < (l0.length : Int) := dq; obtain ⟨ad285, e285, hx285_0, hx285_1⟩ := at_T37 HR0.out x11_1 p285 q285; cases e285; replace hx285_0 := hb_ HB hx285_0; replace hx285_1 := hb_ HB hx285_1; replace p285 := eq_true p285; replace q285 := eq_true q285
        try go_wp2_with (((with_reducible refine gate_dst (N := 4) rfl ?_); refine box_event ?hg (N := 4) ?hd (cs := #[.int .i64 0, .int .i64 0]) (t := 37) ?hr ?_; (case hd => rfl); (case hg => rfl); (case hr => (go_simp; done)); intro gb286 hg w27 hbox hb; have n0_ := ak (below_step bq hb); have n1_ := ak (hbox); have n2_ := ak ((by rw [hg]; exact (below_size bq) : w.heap.size ≤ gb286)); have n3_ := ak ((by rw [hg]; exact (below_size bq) : w.heap.size ≤ gb286)); clear HB; have HB := n0_; have BK286 := n1_; have GW286 := n2_; have GE286 := n3_; clear n0_ n1_ n2_ n3_; clear hb hbox hg; have hcz28_0 : w27.cell? ⟨gb286, 0, none⟩ = some (.int .i64 0) := (blk_cell BK286.out 0).trans rfl; have hcz28_1 : w27.cell? ⟨gb286, 1, none⟩ = some (.int .i64 0) := (blk_cell BK286.out 1).trans rfl; have hfz28_0 := blk_frozen BK286.out 0; have hfz28_1 := blk_frozen BK286.out 1))
        have n0_ : Aside0 (((w27.setCell ⟨gb286, 0, none⟩ (.int .i64 ((rd_T37 l0 x11_1).f0))).setCell ⟨gb286, 1, none⟩ (.int .i64 ((rd_T37 l0 x11_1).f1))).heap[gb286]? = some (.cells #[.int .i64 ((rd_T37 l0 x11_1).f0), .int .i64 ((rd_T37 l0 x11_1).f1)] 37 (0, 0))) := ⟨by refine blk_put (cs := #[.int .i64 ((rd_T37 l0 x11_1).f0), .int .i64 0]) ?_ 1 _ rfl; refine blk_put (cs := #[.int .i64 0, .int .i64 0]) ?_ 0 _ rfl; exact BK286.out⟩; have n1_ : Aside0 (Below w.heap.size w ((w27.setCell ⟨gb286, 0, none⟩ (.int .i64 ((rd_T37 l0 x11_1).f0))).setCell ⟨gb286, 1, none⟩ (.int .i64 ((rd_T37 l0 x11_1).f1)))) := ⟨bs⟩
        (try clear BK286)
        (try clear HB)
        generalize ((w27.setCell ⟨gb286, 0, none⟩ (.int .i64 ((rd_T37 l0 x11_1).f0))).setCell ⟨gb286, 1, none⟩ (.int .i64 ((rd_T37 l0 x11_1).f1))) = w29 at n0_ n1_ ⊢
        have BK286 := n0_; have HB := n1_; clear n0_ n1_; have n0_ := ak (blk_drew BK286.out); have n1_ := ak (below_drew1 HB.out); clear BK286; clear HB; have BK286 := n0_; have HB := n1_; clear n0_ n1_; refine start_ (n := 24) (S := fun w' => w'.cell? ⟨gb286, 0, none⟩ = some (.int .i64 ((rd_T37 l0 x11_1).f0)) ∧ w'.cell? ⟨gb286, 1, none⟩ = some (.int .i64 ((rd_T37 l0 x11_1).f1))) (ds := []) #[Z,Z,Z,Z,Z,Z,Z,Z,Z,Z,Z,Z,Z,Z,Z,Z,Z,Z,Z,Z,Z,Z,Z,Z] (by kernel_rfl) rfl rfl ⟨(blk_cell BK286.out 0).trans rfl, (blk_cell BK286.out 1).trans rfl⟩ (fun hHeld => ?_); refine with_tabW impl_IsBody.tab6 impl_IsBody.bits6 (fun HT_ HW_ => ?_)
        generalize w29.drew = w30 at BK286 HB hHeld ⊢
        refine pq_ (i := 0) (N := some 16) #[Y,Z,Z,Z,Z,Z,Z,Z,Z,Z,Z,Z,Z,Z,Z,Z,Z,Z,Z,Z,Z,Z,Z,Z] HT_ ?_; refine tk_ (i := 1) (N := some 17) #[Y,Y,Z,Z,Z,Z,Z,Z,Z,Z,Z,Z,Z,Z,Z,Z,Z,Z,Z,Z,Z,Z,Z,Z] HT_ HW_ hHeld ?_; refine one_ (i := 2) (N := some 18) #[Y,Y,Y,Z,Z,Z,Z,Z,Z,Z,Z,Z,Z,Z,Z,Z,Z,Z,Z,Z,Z,Z,Z,Z] rfl rfl (one_of HT_.out (by kernel_rfl)) (by decide) (fun K hK => ?_); refine goes_ Tryz.func26 (by kernel_rfl) rfl #[.int .i64 ((rd_T37 l0 x11_1).f0), .int .i64 0, .int .i64 12] (by rfl) rfl rfl aq ?_
        with_reducible refine (impl_within.calls ((rd_T37 l0 x11_1).f0) 0 12 true _ A7.out).mono ?_
        rintro e w' ⟨rfl, ⟨nd, rfl⟩⟩
        refine ⟨_, rfl, ?_⟩; refine hK.out _ _ ⟨(blk_cell BK286.out 0).trans rfl, (blk_cell BK286.out 1).trans rfl⟩ (fun hHeld => ?_); clear hK K; refine norm_ (a' := ?_) ?_ ?_; rotate_left
        ·show Act.put _ (some 18) _ = _
         simp only [Act.put, sA, sZ, sS, i64_w, i32_w]
         rfl
        refine pq_ (i := 3) (N := some 19) #[Y,Y,Y,Y,Z,Z,Z,Z,Z,Z,Z,Z,Z,Z,Z,Z,Z,Z,Z,Z,Z,Z,Z,Z] HT_ ?_; refine pq_ (i := 4) (N := some 20) #[Y,Y,Y,Y,Y,Z,Z,Z,Z,Z,Z,Z,Z,Z,Z,Z,Z,Z,Z,Z,Z,Z,Z,Z] HT_ ?_; refine pq_ (i := 5) (N := some 21) #[Y,Y,Y,Y,Y,Y,Z,Z,Z,Z,Z,Z,Z,Z,Z,Z,Z,Z,Z,Z,Z,Z,Z,Z] HT_ ?_; refine tk_ (i := 6) (N := some 22) #[Y,Y,Y,Y,Y,Y,Y,Z,Z,Z,Z,Z,Z,Z,Z,Z,Z,Z,Z,Z,Z,Z,Z,Z] HT_ HW_ hHeld ?_; refine one_ (i := 7) (N := some 23) #[Y,Y,Y,Y,Y,Y,Y,Y,Z,Z,Z,Z,Z,Z,Z,Z,Z,Z,Z,Z,Z,Z,Z,Z] rfl rfl (one_of HT_.out (by kernel_rfl)) (by decide) (fun K hK => ?_); refine goes_ Tryz.func26 (by kernel_rfl) rfl #[.int .i64 ((rd_T37 l0 x11_1).f1), .int .i64 0, .int .i64 12] (by rfl) rfl rfl aq ?_
        with_reducible refine (impl_within.calls ((rd_T37 l0 x11_1).f1) 0 12 true _ A9.out).mono ?_
        rintro e w' ⟨rfl, ⟨nd, rfl⟩⟩
        refine ⟨_, rfl, ?_⟩; refine hK.out _ _ ⟨(blk_cell BK286.out 0).trans rfl, (blk_cell BK286.out 1).trans rfl⟩ (fun hHeld => ?_); clear hK K; refine norm_ (a' := ?_) ?_ ?_; rotate_left
        ·show Act.put _ (some 23) _ = _
         simp only [Act.put, sA, sZ, sS, i64_w, i32_w]
         rfl
        refine pq_ (i := 8) (N := some 24) #[Y,Y,Y,Y,Y,Y,Y,Y,Y,Z,Z,Z,Z,Z,Z,Z,Z,Z,Z,Z,Z,Z,Z,Z] HT_ ?_; refine pq_ (i := 9) (N := some 25) #[Y,Y,Y,Y,Y,Y,Y,Y,Y,Y,Z,Z,Z,Z,Z,Z,Z,Z,Z,Z,Z,Z,Z,Z] HT_ ?_; refine pq_ (i := 10) (N := some 26) #[Y,Y,Y,Y,Y,Y,Y,Y,Y,Y,Y,Z,Z,Z,Z,Z,Z,Z,Z,Z,Z,Z,Z,Z] HT_ ?_; refine pq_ (i := 11) (N := some 27) #[Y,Y,Y,Y,Y,Y,Y,Y,Y,Y,Y,Y,Z,Z,Z,Z,Z,Z,Z,Z,Z,Z,Z,Z] HT_ ?_; refine pq_ (i := 12) (N := some 28) #[Y,Y,Y,Y,Y,Y,Y,Y,Y,Y,Y,Y,Y,Z,Z,Z,Z,Z,Z,Z,Z,Z,Z,Z] HT_ ?_; refine pq_ (i := 13) (N := some 29) #[Y,Y,Y,Y,Y,Y,Y,Y,Y,Y,Y,Y,Y,Y,Z,Z,Z,Z,Z,Z,Z,Z,Z,Z] HT_ ?_; refine pz_ (i := 14) (N := some 30) (v := undef) #[Y,Y,Y,Y,Y,Y,Y,Y,Y,Y,Y,Y,Y,Y,Y,Z,Z,Z,Z,Z,Z,Z,Z,Z] HT_ ?_; refine pz_ (i := 15) (N := some 31) (v := undef) #[Y,Y,Y,Y,Y,Y,Y,Y,Y,Y,Y,Y,Y,Y,Y,Y,Z,Z,Z,Z,Z,Z,Z,Z] HT_ ?_; refine pz_ (i := 16) (N := some 32) (v := undef) #[Y,Y,Y,Y,Y,Y,Y,Y,Y,Y,Y,Y,Y,Y,Y,Y,Y,Z,Z,Z,Z,Z,Z,Z] HT_ ?_; refine pz_ (i := 17) (N := some 33) (v := undef) #[Y,Y,Y,Y,Y,Y,Y,Y,Y,Y,Y,Y,Y,Y,Y,Y,Y,Y,Z,Z,Z,Z,Z,Z] HT_ ?_; refine pz_ (i := 18) (N := some 34) (v := undef) #[Y,Y,Y,Y,Y,Y,Y,Y,Y,Y,Y,Y,Y,Y,Y,Y,Y,Y,Y,Z,Z,Z,Z,Z] HT_ ?_; refine pz_ (i := 19) (N := some 35) (v := undef) #[Y,Y,Y,Y,Y,Y,Y,Y,Y,Y,Y,Y,Y,Y,Y,Y,Y,Y,Y,Y,Z,Z,Z,Z] HT_ ?_; refine pz_ (i := 20) (N := some 36) (v := undef) #[Y,Y,Y,Y,Y,Y,Y,Y,Y,Y,Y,Y,Y,Y,Y,Y,Y,Y,Y,Y,Y,Z,Z,Z] HT_ ?_; refine pz_ (i := 21) (N := some 37) (v := undef) #[Y,Y,Y,Y,Y,Y,Y,Y,Y,Y,Y,Y,Y,Y,Y,Y,Y,Y,Y,Y,Y,Y,Z,Z] HT_ ?_; refine pq_ (i := 22) (N := some 38) #[Y,Y,Y,Y,Y,Y,Y,Y,Y,Y,Y,Y,Y,Y,Y,Y,Y,Y,Y,Y,Y,Y,Y,Z] HT_ ?_; refine pq_ (i := 23) (N := some 39) #[Y,Y,Y,Y,Y,Y,Y,Y,Y,Y,Y,Y,Y,Y,Y,Y,Y,Y,Y,Y,Y,Y,Y,Y] HT_ ?_; refine done_ (done_of HT_.out (by kernel_rfl)) ?_; (try go_wp2); go_roundg k1
        case measure => have := HK1.out; omega
        case rel => exact ⟨(wrap64 (x11_1 + 1)), sq, H', ⟨by have := HK1.out; omega⟩, ⟨bs⟩⟩
      ·replace c10 := Bool.eq_false_iff.mpr c10
       subst c10; rw [if_neg (show ¬ (false = true) by decide)] at H; obtain rfl := Option.some.inj H; have p285 : 0 ≤ (x11_1 : Int) := dq; have q285 : x11_1 < (l0.length : Int) := dq; obtain ⟨ad285, e285, hx285_0, hx285_1⟩ := at_T37 HR0.out x11_1 p285 q285; cases e285; replace hx285_0 := hb_ HB hx285_0; replace hx285_1 := hb_ HB hx285_1; replace p285 := eq_true p285; replace q285 := eq_true q285
       try go_wp2_with (((with_reducible refine gate_dst (N := 4) rfl ?_); refine box_event ?hg (N := 4) ?hd (cs := #[.int .i64 0, .int .i64 0]) (t := 37) ?hr ?_; (case hd => rfl); (case hg => rfl); (case hr => (go_simp; done)); intro gb286 hg w31 hbox hb; have n0_ := ak (below_step bq hb); have n1_ := ak (hbox); have n2_ := ak ((by rw [hg]; exact (below_size bq) : w.heap.size ≤ gb286)); have n3_ := ak ((by rw [hg]; exact (below_size bq) : w.heap.size ≤ gb286)); clear HB; have HB := n0_; have BK286 := n1_; have GW286 := n2_; have GE286 := n3_; clear n0_ n1_ n2_ n3_; clear hb hbox hg; have hcz32_0 : w31.cell? ⟨gb286, 0, none⟩ = some (.int .i64 0) := (blk_cell BK286.out 0).trans rfl; have hcz32_1 : w31.cell? ⟨gb286, 1, none⟩ = some (.int .i64 0) := (blk_cell BK286.out 1).trans rfl; have hfz32_0 := blk_frozen BK286.out 0; have hfz32_1 := blk_frozen BK286.out 1))
       have n0_ : Aside0 (((w31.setCell ⟨gb286, 0, none⟩ (.int .i64 ((rd_T37 l0 x11_1).f0))).setCell ⟨gb286, 1, none⟩ (.int .i64 ((rd_T37 l0 x11_1).f1))).heap[gb286]? = some (.cells #[.int .i64 ((rd_T37 l0 x11_1).f0), .int .i64 ((rd_T37 l0 x11_1).f1)] 37 (0, 0))) := ⟨by refine blk_put (cs := #[.int .i64 ((rd_T37 l0 x11_1).f0), .int .i64 0]) ?_ 1 _ rfl; refine blk_put (cs := #[.int .i64 0, .int .i64 0]) ?_ 0 _ rfl; exact BK286.out⟩; have n1_ : Aside0 (Below w.heap.size w ((w31.setCell ⟨gb286, 0, none⟩ (.int .i64 ((rd_T37 l0 x11_1).f0))).setCell ⟨gb286, 1, none⟩ (.int .i64 ((rd_T37 l0 x11_1).f1)))) := ⟨bs⟩
       (try clear BK286)
       (try clear HB)
       generalize ((w31.setCell ⟨gb286, 0, none⟩ (.int .i64 ((rd_T37 l0 x11_1).f0))).setCell ⟨gb286, 1, none⟩ (.int .i64 ((rd_T37 l0 x11_1).f1))) = w33 at n0_ n1_ ⊢
       have BK286 := n0_; have HB := n1_; clear n0_ n1_; have n0_ := ak (blk_drew BK286.out); have n1_ := ak (below_drew1 HB.out); clear BK286; clear HB; have BK286 := n0_; have HB := n1_; clear n0_ n1_; refine start_ (n := 24) (S := fun w' => w'.cell? ⟨gb286, 0, none⟩ = some (.int .i64 ((rd_T37 l0 x11_1).f0)) ∧ w'.cell? ⟨gb286, 1, none⟩ = some (.int .i64 ((rd_T37 l0 x11_1).f1))) (ds := []) #[Z,Z,Z,Z,Z,Z,Z,Z,Z,Z,Z,Z,Z,Z,Z,Z,Z,Z,Z,Z,Z,Z,Z,Z] (by kernel_rfl) rfl rfl ⟨(blk_cell BK286.out 0).trans rfl, (blk_cell BK286.out 1).trans rfl⟩ (fun hHeld => ?_); refine with_tabW impl_IsBody.tab6 impl_IsBody.bits6 (fun HT_ HW_ => ?_)
       generalize w33.drew = w34 at BK286 HB hHeld ⊢
       refine pq_ (i := 0) (N := some 16) #[Y,Z,Z,Z,Z,Z,Z,Z,Z,Z,Z,Z,Z,Z,Z,Z,Z,Z,Z,Z,Z,Z,Z,Z] HT_ ?_; refine tk_ (i := 1) (N := some 17) #[Y,Y,Z,Z,Z,Z,Z,Z,Z,Z,Z,Z,Z,Z,Z,Z,Z,Z,Z,Z,Z,Z,Z,Z] HT_ HW_ hHeld ?_; refine one_ (i := 2) (N := some 18) #[Y,Y,Y,Z,Z,Z,Z,Z,Z,Z,Z,Z,Z,Z,Z,Z,Z,Z,Z,Z,Z,Z,Z,Z] rfl rfl (one_of HT_.out (by kernel_rfl)) (by decide) (fun K hK => ?_); refine goes_ Tryz.func26 (by kernel_rfl) rfl #[.int .i64 ((rd_T37 l0 x11_1).f0), .int .i64 0, .int .i64 12] (by rfl) rfl rfl aq ?_
       with_reducible refine (impl_within.calls ((rd_T37 l0 x11_1).f0) 0 12 true _ A7.out).mono ?_
       rintro e w' ⟨rfl, ⟨nd, rfl⟩⟩
       refine ⟨_, rfl, ?_⟩; refine hK.out _ _ ⟨(blk_cell BK286.out 0).trans rfl, (blk_cell BK286.out 1).trans rfl⟩ (fun hHeld => ?_); clear hK K; refine norm_ (a' := ?_) ?_ ?_; rotate_left
       ·show Act.put _ (some 18) _ = _
        simp only [Act.put, sA, sZ, sS, i64_w, i32_w]
        rfl
       refine pq_ (i := 3) (N := some 19) #[Y,Y,Y,Y,Z,Z,Z,Z,Z,Z,Z,Z,Z,Z,Z,Z,Z,Z,Z,Z,Z,Z,Z,Z] HT_ ?_; refine pq_ (i := 4) (N := some 20) #[Y,Y,Y,Y,Y,Z,Z,Z,Z,Z,Z,Z,Z,Z,Z,Z,Z,Z,Z,Z,Z,Z,Z,Z] HT_ ?_; refine pq_ (i := 5) (N := some 21) #[Y,Y,Y,Y,Y,Y,Z,Z,Z,Z,Z,Z,Z,Z,Z,Z,Z,Z,Z,Z,Z,Z,Z,Z] HT_ ?_; refine tk_ (i := 6) (N := some 22) #[Y,Y,Y,Y,Y,Y,Y,Z,Z,Z,Z,Z,Z,Z,Z,Z,Z,Z,Z,Z,Z,Z,Z,Z] HT_ HW_ hHeld ?_; refine one_ (i := 7) (N := some 23) #[Y,Y,Y,Y,Y,Y,Y,Y,Z,Z,Z,Z,Z,Z,Z,Z,Z,Z,Z,Z,Z,Z,Z,Z] rfl rfl (one_of HT_.out (by kernel_rfl)) (by decide) (fun K hK => ?_); refine goes_ Tryz.func26 (by kernel_rfl) rfl #[.int .i64 ((rd_T37 l0 x11_1).f1), .int .i64 0, .int .i64 12] (by rfl) rfl rfl aq ?_
       with_reducible refine (impl_within.calls ((rd_T37 l0 x11_1).f1) 0 12 false _ A9.out).mono ?_
       rintro e w' ⟨rfl, ⟨nd, rfl⟩⟩
       refine ⟨_, rfl, ?_⟩; refine hK.out _ _ ⟨(blk_cell BK286.out 0).trans rfl, (blk_cell BK286.out 1).trans rfl⟩ (fun hHeld => ?_); clear hK K; refine norm_ (a' := ?_) ?_ ?_; rotate_left
       ·show Act.put _ (some 23) _ = _
        simp only [Act.put, sA, sZ, sS, i64_w, i32_w]
        rfl
       refine pq_ (i := 8) (N := some 24) #[Y,Y,Y,Y,Y,Y,Y,Y,Y,Z,Z,Z,Z,Z,Z,Z,Z,Z,Z,Z,Z,Z,Z,Z] HT_ ?_; refine pq_ (i := 9) (N := some 25) #[Y,Y,Y,Y,Y,Y,Y,Y,Y,Y,Z,Z,Z,Z,Z,Z,Z,Z,Z,Z,Z,Z,Z,Z] HT_ ?_; refine pq_ (i := 10) (N := some 26) #[Y,Y,Y,Y,Y,Y,Y,Y,Y,Y,Y,Z,Z,Z,Z,Z,Z,Z,Z,Z,Z,Z,Z,Z] HT_ ?_; refine pz_ (i := 11) (N := some 27) (v := undef) #[Y,Y,Y,Y,Y,Y,Y,Y,Y,Y,Y,Y,Z,Z,Z,Z,Z,Z,Z,Z,Z,Z,Z,Z] HT_ ?_; refine pz_ (i := 12) (N := some 28) (v := undef) #[Y,Y,Y,Y,Y,Y,Y,Y,Y,Y,Y,Y,Y,Z,Z,Z,Z,Z,Z,Z,Z,Z,Z,Z] HT_ ?_; refine pz_ (i := 13) (N := some 29) (v := undef) #[Y,Y,Y,Y,Y,Y,Y,Y,Y,Y,Y,Y,Y,Y,Z,Z,Z,Z,Z,Z,Z,Z,Z,Z] HT_ ?_; refine pz_ (i := 14) (N := some 30) (v := undef) #[Y,Y,Y,Y,Y,Y,Y,Y,Y,Y,Y,Y,Y,Y,Y,Z,Z,Z,Z,Z,Z,Z,Z,Z] HT_ ?_; refine pz_ (i := 15) (N := some 31) (v := undef) #[Y,Y,Y,Y,Y,Y,Y,Y,Y,Y,Y,Y,Y,Y,Y,Y,Z,Z,Z,Z,Z,Z,Z,Z] HT_ ?_; refine pz_ (i := 16) (N := some 32) (v := undef) #[Y,Y,Y,Y,Y,Y,Y,Y,Y,Y,Y,Y,Y,Y,Y,Y,Y,Z,Z,Z,Z,Z,Z,Z] HT_ ?_; refine pz_ (i := 17) (N := some 33) (v := undef) #[Y,Y,Y,Y,Y,Y,Y,Y,Y,Y,Y,Y,Y,Y,Y,Y,Y,Y,Z,Z,Z,Z,Z,Z] HT_ ?_; refine pz_ (i := 18) (N := some 34) (v := undef) #[Y,Y,Y,Y,Y,Y,Y,Y,Y,Y,Y,Y,Y,Y,Y,Y,Y,Y,Y,Z,Z,Z,Z,Z] HT_ ?_; refine pz_ (i := 19) (N := some 35) (v := undef) #[Y,Y,Y,Y,Y,Y,Y,Y,Y,Y,Y,Y,Y,Y,Y,Y,Y,Y,Y,Y,Z,Z,Z,Z] HT_ ?_; refine pz_ (i := 20) (N := some 36) (v := undef) #[Y,Y,Y,Y,Y,Y,Y,Y,Y,Y,Y,Y,Y,Y,Y,Y,Y,Y,Y,Y,Y,Z,Z,Z] HT_ ?_; refine pz_ (i := 21) (N := some 37) (v := undef) #[Y,Y,Y,Y,Y,Y,Y,Y,Y,Y,Y,Y,Y,Y,Y,Y,Y,Y,Y,Y,Y,Y,Z,Z] HT_ ?_; refine pz_ (i := 22) (N := some 38) (v := undef) #[Y,Y,Y,Y,Y,Y,Y,Y,Y,Y,Y,Y,Y,Y,Y,Y,Y,Y,Y,Y,Y,Y,Y,Z] HT_ ?_; refine pq_ (i := 23) (N := some 39) #[Y,Y,Y,Y,Y,Y,Y,Y,Y,Y,Y,Y,Y,Y,Y,Y,Y,Y,Y,Y,Y,Y,Y,Y] HT_ ?_; refine done_ (done_of HT_.out (by kernel_rfl)) ?_; (try go_wp2); go_ret; exact ⟨eq_, bs⟩
     ·replace c8 := Bool.eq_false_iff.mpr c8
      subst c8; rw [if_neg (show ¬ (false = true) by decide)] at H; obtain rfl := Option.some.inj H; have p285 : 0 ≤ (x11_1 : Int) := dq; have q285 : x11_1 < (l0.length : Int) := dq; obtain ⟨ad285, e285, hx285_0, hx285_1⟩ := at_T37 HR0.out x11_1 p285 q285; cases e285; replace hx285_0 := hb_ HB hx285_0; replace hx285_1 := hb_ HB hx285_1; replace p285 := eq_true p285; replace q285 := eq_true q285
      try go_wp2_with (((with_reducible refine gate_dst (N := 4) rfl ?_); refine box_event ?hg (N := 4) ?hd (cs := #[.int .i64 0, .int .i64 0]) (t := 37) ?hr ?_; (case hd => rfl); (case hg => rfl); (case hr => (go_simp; done)); intro gb286 hg w35 hbox hb; have n0_ := ak (below_step bq hb); have n1_ := ak (hbox); have n2_ := ak ((by rw [hg]; exact (below_size bq) : w.heap.size ≤ gb286)); have n3_ := ak ((by rw [hg]; exact (below_size bq) : w.heap.size ≤ gb286)); clear HB; have HB := n0_; have BK286 := n1_; have GW286 := n2_; have GE286 := n3_; clear n0_ n1_ n2_ n3_; clear hb hbox hg; have hcz36_0 : w35.cell? ⟨gb286, 0, none⟩ = some (.int .i64 0) := (blk_cell BK286.out 0).trans rfl; have hcz36_1 : w35.cell? ⟨gb286, 1, none⟩ = some (.int .i64 0) := (blk_cell BK286.out 1).trans rfl; have hfz36_0 := blk_frozen BK286.out 0; have hfz36_1 := blk_frozen BK286.out 1))
      have n0_ : Aside0 (((w35.setCell ⟨gb286, 0, none⟩ (.int .i64 ((rd_T37 l0 x11_1).f0))).setCell ⟨gb286, 1, none⟩ (.int .i64 ((rd_T37 l0 x11_1).f1))).heap[gb286]? = some (.cells #[.int .i64 ((rd_T37 l0 x11_1).f0), .int .i64 ((rd_T37 l0 x11_1).f1)] 37 (0, 0))) := ⟨by refine blk_put (cs := #[.int .i64 ((rd_T37 l0 x11_1).f0), .int .i64 0]) ?_ 1 _ rfl; refine blk_put (cs := #[.int .i64 0, .int .i64 0]) ?_ 0 _ rfl; exact BK286.out⟩; have n1_ : Aside0 (Below w.heap.size w ((w35.setCell ⟨gb286, 0, none⟩ (.int .i64 ((rd_T37 l0 x11_1).f0))).setCell ⟨gb286, 1, none⟩ (.int .i64 ((rd_T37 l0 x11_1).f1)))) := ⟨bs⟩
      (try clear BK286)
      (try clear HB)
      generalize ((w35.setCell ⟨gb286, 0, none⟩ (.int .i64 ((rd_T37 l0 x11_1).f0))).setCell ⟨gb286, 1, none⟩ (.int .i64 ((rd_T37 l0 x11_1).f1))) = w37 at n0_ n1_ ⊢
      have BK286 := n0_; have HB := n1_; clear n0_ n1_; have n0_ := ak (blk_drew BK286.out); have n1_ := ak (below_drew1 HB.out); clear BK286; clear HB; have BK286 := n0_; have HB := n1_; clear n0_ n1_; refine start_ (n := 24) (S := fun w' => w'.cell? ⟨gb286, 0, none⟩ = some (.int .i64 ((rd_T37 l0 x11_1).f0)) ∧ w'.cell? ⟨gb286, 1, none⟩ = some (.int .i64 ((rd_T37 l0 x11_1).f1))) (ds := []) #[Z,Z,Z,Z,Z,Z,Z,Z,Z,Z,Z,Z,Z,Z,Z,Z,Z,Z,Z,Z,Z,Z,Z,Z] (by kernel_rfl) rfl rfl ⟨(blk_cell BK286.out 0).trans rfl, (blk_cell BK286.out 1).trans rfl⟩ (fun hHeld => ?_); refine with_tabW impl_IsBody.tab6 impl_IsBody.bits6 (fun HT_ HW_ => ?_)
      generalize w37.drew = w38 at BK286 HB hHeld ⊢
      refine pq_ (i := 0) (N := some 16) #[Y,Z,Z,Z,Z,Z,Z,Z,Z,Z,Z,Z,Z,Z,Z,Z,Z,Z,Z,Z,Z,Z,Z,Z] HT_ ?_; refine tk_ (i := 1) (N := some 17) #[Y,Y,Z,Z,Z,Z,Z,Z,Z,Z,Z,Z,Z,Z,Z,Z,Z,Z,Z,Z,Z,Z,Z,Z] HT_ HW_ hHeld ?_; refine one_ (i := 2) (N := some 18) #[Y,Y,Y,Z,Z,Z,Z,Z,Z,Z,Z,Z,Z,Z,Z,Z,Z,Z,Z,Z,Z,Z,Z,Z] rfl rfl (one_of HT_.out (by kernel_rfl)) (by decide) (fun K hK => ?_); refine goes_ Tryz.func26 (by kernel_rfl) rfl #[.int .i64 ((rd_T37 l0 x11_1).f0), .int .i64 0, .int .i64 12] (by rfl) rfl rfl aq ?_
      with_reducible refine (impl_within.calls ((rd_T37 l0 x11_1).f0) 0 12 false _ A7.out).mono ?_
      rintro e w' ⟨rfl, ⟨nd, rfl⟩⟩
      refine ⟨_, rfl, ?_⟩; refine hK.out _ _ ⟨(blk_cell BK286.out 0).trans rfl, (blk_cell BK286.out 1).trans rfl⟩ (fun hHeld => ?_); clear hK K; refine norm_ (a' := ?_) ?_ ?_; rotate_left
      ·show Act.put _ (some 18) _ = _
       simp only [Act.put, sA, sZ, sS, i64_w, i32_w]
       rfl
      refine pq_ (i := 3) (N := some 19) #[Y,Y,Y,Y,Z,Z,Z,Z,Z,Z,Z,Z,Z,Z,Z,Z,Z,Z,Z,Z,Z,Z,Z,Z] HT_ ?_; refine pq_ (i := 4) (N := some 20) #[Y,Y,Y,Y,Y,Z,Z,Z,Z,Z,Z,Z,Z,Z,Z,Z,Z,Z,Z,Z,Z,Z,Z,Z] HT_ ?_; refine pz_ (i := 5) (N := some 21) (v := undef) #[Y,Y,Y,Y,Y,Y,Z,Z,Z,Z,Z,Z,Z,Z,Z,Z,Z,Z,Z,Z,Z,Z,Z,Z] HT_ ?_; refine pz_ (i := 6) (N := some 22) (v := undef) #[Y,Y,Y,Y,Y,Y,Y,Z,Z,Z,Z,Z,Z,Z,Z,Z,Z,Z,Z,Z,Z,Z,Z,Z] HT_ ?_; refine pz_ (i := 7) (N := some 23) (v := undef) #[Y,Y,Y,Y,Y,Y,Y,Y,Z,Z,Z,Z,Z,Z,Z,Z,Z,Z,Z,Z,Z,Z,Z,Z] HT_ ?_; refine pz_ (i := 8) (N := some 24) (v := undef) #[Y,Y,Y,Y,Y,Y,Y,Y,Y,Z,Z,Z,Z,Z,Z,Z,Z,Z,Z,Z,Z,Z,Z,Z] HT_ ?_; refine pq_ (i := 9) (N := some 25) #[Y,Y,Y,Y,Y,Y,Y,Y,Y,Y,Z,Z,Z,Z,Z,Z,Z,Z,Z,Z,Z,Z,Z,Z] HT_ ?_; refine pq_ (i := 10) (N := some 26) #[Y,Y,Y,Y,Y,Y,Y,Y,Y,Y,Y,Z,Z,Z,Z,Z,Z,Z,Z,Z,Z,Z,Z,Z] HT_ ?_; refine pz_ (i := 11) (N := some 27) (v := undef) #[Y,Y,Y,Y,Y,Y,Y,Y,Y,Y,Y,Y,Z,Z,Z,Z,Z,Z,Z,Z,Z,Z,Z,Z] HT_ ?_; refine pz_ (i := 12) (N := some 28) (v := undef) #[Y,Y,Y,Y,Y,Y,Y,Y,Y,Y,Y,Y,Y,Z,Z,Z,Z,Z,Z,Z,Z,Z,Z,Z] HT_ ?_; refine pz_ (i := 13) (N := some 29) (v := undef) #[Y,Y,Y,Y,Y,Y,Y,Y,Y,Y,Y,Y,Y,Y,Z,Z,Z,Z,Z,Z,Z,Z,Z,Z] HT_ ?_; refine pz_ (i := 14) (N := some 30) (v := undef) #[Y,Y,Y,Y,Y,Y,Y,Y,Y,Y,Y,Y,Y,Y,Y,Z,Z,Z,Z,Z,Z,Z,Z,Z] HT_ ?_; refine pz_ (i := 15) (N := some 31) (v := undef) #[Y,Y,Y,Y,Y,Y,Y,Y,Y,Y,Y,Y,Y,Y,Y,Y,Z,Z,Z,Z,Z,Z,Z,Z] HT_ ?_; refine pz_ (i := 16) (N := some 32) (v := undef) #[Y,Y,Y,Y,Y,Y,Y,Y,Y,Y,Y,Y,Y,Y,Y,Y,Y,Z,Z,Z,Z,Z,Z,Z] HT_ ?_; refine pz_ (i := 17) (N := some 33) (v := undef) #[Y,Y,Y,Y,Y,Y,Y,Y,Y,Y,Y,Y,Y,Y,Y,Y,Y,Y,Z,Z,Z,Z,Z,Z] HT_ ?_; refine pz_ (i := 18) (N := some 34) (v := undef) #[Y,Y,Y,Y,Y,Y,Y,Y,Y,Y,Y,Y,Y,Y,Y,Y,Y,Y,Y,Z,Z,Z,Z,Z] HT_ ?_; refine pz_ (i := 19) (N := some 35) (v := undef) #[Y,Y,Y,Y,Y,Y,Y,Y,Y,Y,Y,Y,Y,Y,Y,Y,Y,Y,Y,Y,Z,Z,Z,Z] HT_ ?_; refine pz_ (i := 20) (N := some 36) (v := undef) #[Y,Y,Y,Y,Y,Y,Y,Y,Y,Y,Y,Y,Y,Y,Y,Y,Y,Y,Y,Y,Y,Z,Z,Z] HT_ ?_; refine pz_ (i := 21) (N := some 37) (v := undef) #[Y,Y,Y,Y,Y,Y,Y,Y,Y,Y,Y,Y,Y,Y,Y,Y,Y,Y,Y,Y,Y,Y,Z,Z] HT_ ?_; refine pz_ (i := 22) (N := some 38) (v := undef) #[Y,Y,Y,Y,Y,Y,Y,Y,Y,Y,Y,Y,Y,Y,Y,Y,Y,Y,Y,Y,Y,Y,Y,Z] HT_ ?_; refine pq_ (i := 23) (N := some 39) #[Y,Y,Y,Y,Y,Y,Y,Y,Y,Y,Y,Y,Y,Y,Y,Y,Y,Y,Y,Y,Y,Y,Y,Y] HT_ ?_; refine done_ (done_of HT_.out (by kernel_rfl)) ?_; (try go_wp2); go_ret; exact ⟨eq_, bs⟩
    ·rw [if_neg c4] at H
     have c4b0 := decide_eq_false c4; clear c4; obtain ⟨⟨t282, t283⟩, A390, H⟩ := Option.bind_eq_some_iff.mp H
     (try dsimp only at H)
     have A39 := ak A390; clear A390
     by_cases c40 : (t282 == 0 && (t283 == 0)) = true
     ·rw [if_pos c40] at H
      have c40b0 : (t282 == 0 && (t283 == 0)) = true := c40
      (try (have c40b1 : decide (t282 = 0 && (t283 == 0)) = true := by simpa using c40))
      (try (have c40b2 : (t282 == 0 && (t283 == 0)) = true := by simpa using c40))
      clear c40; obtain ⟨t284, A410, H⟩ := Option.bind_eq_some_iff.mp H
      have A41 := ak A410; clear A410; obtain rfl := Option.some.inj H
      go_wp2_with (first | ((with_reducible refine gate_callee (f := 28) rfl ?_); refine goesL_ (some 42) rfl rfl Tryz.func28 (by kernel_rfl) rfl #[.slice A0 l0.length c0] rfl aq ?_; (with_reducible refine (impl_leastOf.calls k1 _ _ l0 t282 t283 _ ?side1 ?side2 A39.out).mono ?_); (case side1 => exact cq (Kd.C_below HR0.out HB.out)); (case side2 => exact HC0.out); rintro e w42 ⟨rfl, hb⟩; refine ⟨_, rfl, ?_⟩; have n0_ := ak (below_step bq hb); clear HB; have HB := n0_; clear n0_; (try clear hb)) | (go_at_call 29; (with_reducible refine (impl_hangs.calls k1 _ _ l0 t284 _ ?side1 ?side2 A41.out).mono ?_); (case side1 => exact cq (Kd.C_below HR0.out HB.out)); (case side2 => exact HC0.out); rintro e w43 ⟨rfl, hb⟩; have n0_ := ak (below_step bq hb); clear HB; have HB := n0_; clear n0_; (try clear hb)))
      go_ret; exact ⟨eq_, bq⟩
     ·rw [if_neg c40] at H
      have c40b0 : (t282 == 0 && (t283 == 0)) = false := by simpa using c40
      (try (have c40b1 : decide (t282 = 0 && (t283 == 0)) = false := by simpa using c40))
      (try (have c40b2 : (t282 == 0 && (t283 == 0)) = false := by simpa using c40))
      (try (have c40b3 : ¬ (t282 = 0 && (t283 == 0)) := by simpa using c40))
      clear c40; obtain rfl := Option.some.inj H
      go_wp2_with (((with_reducible refine gate_callee (f := 28) rfl ?_); refine goesL_ (some 42) rfl rfl Tryz.func28 (by kernel_rfl) rfl #[.slice A0 l0.length c0] rfl aq ?_; (with_reducible refine (impl_leastOf.calls k1 _ _ l0 t282 t283 _ ?side1 ?side2 A39.out).mono ?_); (case side1 => exact cq (Kd.C_below HR0.out HB.out)); (case side2 => exact HC0.out); rintro e w44 ⟨rfl, hb⟩; refine ⟨_, rfl, ?_⟩; have n0_ := ak (below_step bq hb); clear HB; have HB := n0_; clear n0_; (try clear hb)))
      go_ret; exact ⟨eq_, bq⟩
 ·replace c3 := Bool.eq_false_iff.mpr c3
  subst c3; rw [if_neg (show ¬ (false = true) by decide)] at H; obtain rfl := Option.some.inj H
  go_enter Tryz.func8, Tryz.ntmps8
  go_wp2_with (((with_reducible refine gate_callee (f := 26) rfl ?_); refine goesL_ (some 7) rfl rfl Tryz.func26 (by kernel_rfl) rfl #[.int .i64 (l0.length : Int), .int .i64 1, .int .i64 12] rfl aq ?_; (with_reducible refine (impl_within.calls (l0.length : Int) 1 12 false _ A2.out).mono ?_); rintro e w' ⟨rfl, ⟨nd, rfl⟩⟩; refine ⟨_, rfl, ?_⟩))
  go_ret; exact ⟨eq_, bq⟩
end
/-! ### slices_Clone: function 53, by hand -/
def slices_Clone.f (l0 : List (S37)) : Option (List (S37)) := if l0.length < 8796093022208 then some l0 else none
theorem clone_info : (Tryz.prog.info? 37).map (fun i => (i.zero, i.size, i.bytes)) = some (some (.agg #[(.int .i64 0), (.int .i64 0)]), 2, 16) := by kernel_rfl
theorem slices_Clone.calls (A0 : Option Addr) (c0 : Nat) (l0 : List (S37)) (r : List (S37)) (w : World) (hr0 : Kd.C k37 w A0 l0.length l0) (hc0 : l0.length ≤ c0) (h : slices_Clone.f l0 = some r) :
  Calls Tryz.prog 53 #[.slice A0 l0.length c0] w fun e w' => ∃ v0_ : Value, e = .returned (v0_) ∧ Kd.R k37 37 w' w.heap.size (fun _ => True) v0_ r ∧ Below w.heap.size w w' := by
 unfold slices_Clone.f at h
 by_cases c2 : l0.length < 8796093022208
 case neg => rw [if_neg c2] at h; cases h
 rw [if_pos c2] at h; obtain rfl := Option.some.inj h; clear h; have HS := ak c2; clear c2; have HR0 := ak hr0; have HC0 := ak hc0; clear hr0 hc0; have HB := ak (Below.refl w.heap.size w)
 have q : ∀ (w : World) (a : Option Addr) (n c n' c' : Nat), (binOp .eql 24 (.slice a n c) (.slice none n' c')).run Tryz.prog w = .ok (.bool a.isNone) w := fun w a n c n' c' => Go.Lib.run_eql_slice_nil w _ _ a n c n' c' Tryz.underlying24
 cases A0 with
 | none =>
  have hn : l0 = [] := by
   cases l0 with
   | nil => rfl
   | cons x l => obtain ⟨_, _, h3⟩ := HR0.out; obtain ⟨ad, e, _⟩ := h3 (by simp); cases e
  subst hn; clear HR0
  go_enter Tryz.func53, Tryz.ntmps53
  go_wp2; go_ret; exact ⟨_, rfl, Kd.R_nil _ _ _ _ _, Below.refl _ _⟩
 | some ad =>
  obtain ⟨y1, hy1⟩ : ∃ y_ : List (S37), y_ = (([] : List (S37))) := ⟨_, rfl⟩; have Ny1 := ak hy1; clear hy1; obtain ⟨y2, hy2⟩ : ∃ y_ : List (S37), y_ = (y1 ++ l0) := ⟨_, rfl⟩; have Ny2 := ak hy2; clear hy2; have er := ak (show l0 = y2 by rw [Ny2.out, Ny1.out]; rfl)
  go_enter Tryz.func53, Tryz.ntmps53
  go_wp2_with (first
   | ((with_reducible refine gate_dst (N := 5) rfl ?_); refine Kd.R_lit k37 _ 37 ?hg (N := 5) ?hd (xs := ([] : List (S37))) (inner := []) (ok := fun _ => True) (okp := fun _ => True) ?hr ?hp (fun _ hk => hk) trivial (Below.refl _ _) (Nat.le_refl _) (by simp) ?_; (case hd => rfl); (case hg => rfl); (case hr => (go_simp; done)); (case hp => exact (Reps.none _ _)); intro v1 w8 ho9 hb hg_ hnew_; clear hg_ hnew_; (rw [← Ny1.out] at ho9); have n0_ := ak (Kd.R_lower ho9 (below_size bq)); have n1_ := ak (below_step bq hb); clear HB; have HO1 := n0_; have HB := n1_; clear n0_ n1_; clear hb ho9)
   | ((with_reducible refine gate_builtin (b := .append) (xs := #[.tmp 5, .tmp 6]) rfl ?_); at_builtin; refine Kd.R_append_rows k37 (w0 := w) w.heap.size rfl (.tmp 5) (.tmp 6) 24 37 (.agg #[(.int .i64 0), (.int .i64 0)]) 16 rfl Tryz.underlying24 clone_info rfl (by decide) (by decide) v1 y1 l0 _ _ _ (fun _ => True) (fun _ => False) rfl rfl ?aO ?aR (fun _ _ h => h) (fun _ h => h.elim) ?aF ?aB ?aS ?aL ?_; (case aR => exact cq (Kd.C_below HR0.out HB.out)); (case aB => exact bq); (case aF => exact (fun _ _ => trivial)); (case aO => exact (rq HO1)); (case aS => exact (below_size bq)); (case aL => have := HS.out; rw [Ny1.out]; simp; omega); intro v2 w11 ho hb hg hat; rw [← Ny2.out] at ho; have n0_ := ak (hb); have n1_ := ak (ho); clear HB; clear HO1; have HB := n0_; have HO2 := n1_; clear n0_ n1_; clear ho hb hg hat))
  go_ret; exact ⟨_, by first | rfl | (simp <;> rfl), by rw [er.out]; exact HO2.out, bq⟩
/-! ### slices_Delete: function 52, by hand -/
def slices_Delete.f (l0 : List (S37)) (a1 a2 : Int) : Option (List (S37)) := if 0 ≤ a1 ∧ a2 = a1 + 1 ∧ a1 < (l0.length : Int) then some (l0.eraseIdx a1.toNat) else none
theorem setCells_blk {g : Nat} {t : TypeId} : ∀ (vs : List Value) (o : Nat) {w : World} {cs : Array Value}, w.heap[g]? = some (.cells cs t (0, 0)) → ∃ cs', (w.setCells g o vs).heap[g]? = some (.cells cs' t (0, 0)) ∧ cs'.size = cs.size ∧ (∀ i, i < o → cs'[i]? = cs[i]?) ∧ w.grownBy (w.setCells g o vs) (some g) := by
 intro vs
 induction vs with
 | nil => intro o w cs h; exact ⟨cs, h, rfl, fun _ _ => rfl, ⟨rfl, rfl, rfl, Nat.le_refl _, fun _ _ _ => rfl⟩⟩
 | cons v r ih =>
  intro o w cs h; have h1 := blk_set h o v; obtain ⟨cs', e1, e2, e3, e4⟩ := ih (o + 1) h1; refine ⟨cs', e1, by rw [e2]; simp, fun i hi => ?_, ?_⟩
  ·rw [e3 i (by omega), Array.getElem?_setIfInBounds_ne (by omega)]
  ·have g1 : w.grownBy (w.setCell ⟨g, o, none⟩ v) (some g) := ⟨(Below.setCell (Below.refl 0 w) (Nat.zero_le _) v).os, (Below.setCell (Below.refl 0 w) (Nat.zero_le _) v).tape, (Below.setCell (Below.refl 0 w) (Nat.zero_le _) v).output, by simp, fun k hk hne => Below.heap_setCell w ⟨g, o, none⟩ v k (fun e => hne (by rw [e]))⟩
   exact World.grownBy.trans g1 e4
/-- The cells behind a row's elements are set to zero: the row stays. -/
theorem R_clear {α : Type} (d : Kd α) {W : World} {base e g n c m c2 : Nat} {xs : List α} {ok : Nat → Prop} (t : TypeId) (z : Value) (ht : Tryz.prog.underlying t = some (.slice e)) (hv : ∀ w, (zeroValue e).run Tryz.prog w = .ok z w) (hzs : z.cells.size = d.sz) (h1 : ∀ u ∈ z.cells, u.oneCell' = true) (hd0 : 0 < d.sz) (hM : ∀ (W W' : World) (base : Nat) (ok : Nat → Prop) p c, d.M W base ok p c → d.M W' base ok p c)
  (HO : d.R e W base ok (.slice (some ⟨g, 0, none⟩) n c) xs) (hm : n + m ≤ c) (hm0 : 0 < m) :
  ∃ w1, (∀ ty, (Builtin.clear_ #[t] ty #[.slice (some ⟨g, n * d.sz, none⟩) m c2]).run Tryz.prog W = .ok (.tuple #[]) w1) ∧ d.R e w1 base ok (.slice (some ⟨g, 0, none⟩) n c) xs ∧ W.grownBy w1 (some g) := by
 obtain ⟨hok, inner, ⟨ho1, ho2⟩, hr⟩ := HO
 rcases ho2 with ⟨hv', _⟩ | ⟨g', cap', cur, hv', hb, hh, h2, hcm, hcs, htake⟩
 ·cases hv'
 injection hv' with ha hn hc
 injection ha with ha
 injection ha with hg
 subst hg; subst hc; subst hn
 have hzl : (Builtin.zeroCells z.cells m).toList.length = m * d.sz := by simp [Builtin.zeroCells, hzs]
 obtain ⟨cs', e1, e2, e3, e4⟩ := setCells_blk (Builtin.zeroCells z.cells m).toList (xs.length * d.sz) hh; have hmul : (xs.length + m) * d.sz ≤ c * d.sz := Nat.mul_le_mul_right _ hm; rw [Nat.add_mul] at hmul
 have hcell : ∀ j, j < m * d.sz → (W.cell? ⟨g, xs.length * d.sz + 0 + j, none⟩).isSome = true := by
  intro j hj; rw [blk_cell hh, Array.getElem?_eq_getElem (by rw [hcs]; omega)]; rfl
 refine ⟨W.setCells g (xs.length * d.sz) (Builtin.zeroCells z.cells m).toList, fun ty => ?_, ⟨hok, inner, ⟨ho1, Or.inr ⟨g, c, cs', rfl, hb, e1, h2, hcm, by rw [e2]; exact hcs, ?_⟩⟩, hr.imp_ (fun p c hp => hM _ _ _ _ _ _ hp)⟩, e4⟩
 ·have hst := run_storeCells_cells (P := Tryz.prog) g (xs.length * d.sz) (Builtin.zeroCells z.cells m).toList 0 W (by rw [hzl]; exact hcell) (by intro j _; exact blk_frozen hh _) (by
   intro v hv2; simp only [Builtin.zeroCells, Array.toList_map, List.mem_map] at hv2; obtain ⟨i, hi, rfl⟩ := hv2; have hlt : i % z.cells.size < z.cells.size := Nat.mod_lt _ (by omega); rw [getElem!_pos z.cells _ hlt]
   exact h1 _ (Array.getElem_mem hlt))
  simp only [Nat.add_zero] at hst; obtain ⟨m', rfl⟩ : ∃ m', m = m' + 1 := ⟨m - 1, by omega⟩
  simp [Builtin.clear_, run_underlying ht, hv, hst]
 ·rw [← htake]
  apply List.ext_getElem?
  intro i
  by_cases hi : i < xs.length * d.sz
  ·rw [List.getElem?_take_of_lt hi, List.getElem?_take_of_lt hi, Array.getElem?_toList, Array.getElem?_toList, e3 i hi]
  ·rw [List.getElem?_take_eq_none (by omega), List.getElem?_take_eq_none (by omega)]
theorem cells_M (W W' : World) (base : Nat) (ok : Nat → Prop) (p : S37) (c : List Value) (h : k37.M W base ok p c) : k37.M W' base ok p c := by
 have e := k37_openM h; rw [e]; exact k37_mkM _ _ _ p
theorem delete_info : (Tryz.prog.info? 37).map (·.size) = some k37.sz := by kernel_rfl
theorem delete_zero (w : World) : (zeroValue 37).run Tryz.prog w = .ok (.agg #[.int .i64 0, .int .i64 0]) w := by kernel_rfl
theorem slices_Delete.calls (g c k : Nat) (l0 : List (S37)) (ok : Nat → Prop) (w0 w : World) (hB : Below w0.heap.size w0 w) (ho : Kd.R k37 37 w w0.heap.size ok (.slice (some ⟨g, 0, none⟩) l0.length c) l0) (hk : k < l0.length) :
  Calls Tryz.prog 52 #[.slice (some ⟨g, 0, none⟩) l0.length c, .int .i64 (k : Int), .int .i64 (k + 1 : Int)] w fun e w' => e = .returned (.slice (some ⟨g, 0, none⟩) (l0.length - 1) c) ∧ Kd.R k37 37 w' w0.heap.size ok (.slice (some ⟨g, 0, none⟩) (l0.length - 1) c) (l0.eraseIdx k) ∧ Below w0.heap.size w0 w' := by
 obtain ⟨hn1, hn2, hn3⟩ := Kd.R_reads' ho; have HO := ak ho; have HB := ak hB
 have hmax : c ≤ 9223372036854775807 := by
  obtain ⟨_, inner, ⟨_, ho2⟩, _⟩ := ho
  rcases ho2 with ⟨hv', _⟩ | ⟨g', cap', cur, hv', hb, hh, h2, hcm, hcs, htake⟩
  ·cases hv'
  ·injection hv' with _ _ hc
   subst hc
   first | exact hcm | omega
 have hbase := hB.size
 have hic : k ≤ c := by omega
 have hjc : k + 1 ≤ c := by omega
 have hkk : 0 ≤ (k : Int) + 1 := by omega
 have hkl : (k : Int) + 1 ≤ (l0.length : Int) := by omega
 clear hB ho hn1 hn3
 go_enter Tryz.func52, Tryz.ntmps52
 go_wp2
 go_region_law (refine Kd.R_delete_step k37 (w0 := w0) w0.heap.size (by simp [Region.wanted]) (.tmp 22) (.tmp 25) 24 37 rfl Tryz.underlying24 delete_info (g := g) (n := l0.length) (c := c) (k := k) (m := l0.length - (k + 1)) (c2 := c - (k + 1)) (A := if c = k + 1 then some ⟨g, 0, none⟩ else some ⟨g, (k + 1) * 2, none⟩) (xs := l0) (ok := ok) (by simp [Act.eval, Act.put]) (by simp [Act.eval, Act.put]) (by simp only [Option.map_some, add_plain]; rfl) rfl (Kd.R_drew HO.out) hk (below_drew1 HB.out) hbase ?_; intro w1 ho1 hb1 hg1)
 obtain ⟨w2, hclr, ho2, hg2⟩ := R_clear k37 (c2 := c - (l0.length - 1)) 24 (.agg #[.int .i64 0, .int .i64 0]) Tryz.underlying24 delete_zero rfl (by intro u hu; simp [Value.cells] at hu; rcases hu with rfl | rfl <;> rfl) (by decide) cells_M ho1 (m := l0.length - (l0.length - 1)) (by omega) (by omega); have hsz : k37.sz = 2 := rfl; rw [hsz] at hclr; have HO2 := ak ho2; have HB2 := ak (hb1.grown hg2 hb1.size (fun k hk => by injection hk with hk; subst hk; exact Kd.R_base ho1 _ (by simp [Value.ownBlock]))); clear ho1 ho2 hg1 hg2 hb1; go_wp2
 all_goals go_ret
 ·have hck_ : c = k + 1 := by assumption
  subst hck_; exact ⟨rfl, HO2.out, HB2.out⟩
 ·exact ⟨rfl, HO2.out, HB2.out⟩
/-! ### slices_SortFunc_compareCells: function 64, by hand -/
def cmpC (x y : S37) : Int := if x.f0 < y.f0 then -1 else if x.f0 > y.f0 then 1 else if x.f1 < y.f1 then -1 else if x.f1 > y.f1 then 1 else 0
theorem ltC_eq (x y : S37) : ltOf cmpC x y = decide (x.f0 < y.f0 ∨ (x.f0 = y.f0 ∧ x.f1 < y.f1)) := by
 unfold ltOf cmpC
 split
 ·next h => simp [h]
 ·split
  ·next h h2 => simp; omega
  ·split
   ·next h h2 h3 => simp; omega
   ·split
    ·next h h2 h3 h4 => simp; omega
    ·next h h2 h3 h4 => simp; omega
theorem swoC : Go.Sort.SWO (ltOf cmpC) where
 irrefl x := by rw [ltC_eq]; simp
 trans x y z h1 h2 := by rw [ltC_eq] at *; simp only [decide_eq_true_eq] at *; omega
 ntrans x y z h1 h2 := by rw [ltC_eq] at *; simp only [decide_eq_false_iff_not] at *; omega
instance : Inhabited S37 := ⟨⟨0, 0⟩⟩
def encC (x : S37) : List Value := [.int .i64 x.f0, .int .i64 x.f1]
/-- The list as the library's sort leaves it. -/
def sortC (l : List (S37)) : List (S37) := (Go.Sort.pdq (ltOf cmpC) l.toArray 0 l.toArray.size (Go.Lib.bitLen l.toArray.size) true true).toList
def slices_SortFunc_compareCells.f (l0 : List (S37)) : Option (List (S37)) := if 0 < l0.length ∧ l0.length < 4611686018427387904 then some (sortC l0) else none
theorem sortC_perm (l : List (S37)) : Go.Sort.PermIn 0 l.toArray.size l.toArray (Go.Sort.pdq (ltOf cmpC) l.toArray 0 l.toArray.size (Go.Lib.bitLen l.toArray.size) true true) ∧ Go.Sort.SortedIn (ltOf cmpC) 0 l.toArray.size (Go.Sort.pdq (ltOf cmpC) l.toArray 0 l.toArray.size (Go.Lib.bitLen l.toArray.size) true true) := Go.Sort.pdq_sorts (ltOf cmpC) swoC l.toArray 0 l.toArray.size (Go.Lib.bitLen l.toArray.size) true true (Nat.zero_le _) (Nat.le_refl _) (Or.inl rfl)
theorem enc_len (x : S37) : (encC x).length = 2 := rfl
theorem chunk_at {l : List (S37)} {inner : List Value} {w : World} {base : Nat} {ok : Nat → Prop} (h : Reps (k37.M w base ok) k37.sz l inner) : inner = (Go.Sort.flatK encC 2 l.toArray).toList := by
 obtain ⟨hl, hc⟩ := h; have hsz : k37.sz = 2 := rfl; rw [hsz] at hl hc
 apply List.ext_getElem?
 intro t
 by_cases ht : t < l.length * 2
 ·have hj : t / 2 < l.length := by omega
  have hm := k37_openM (hc (t / 2) _ (List.getElem?_eq_getElem hj))
  have h1 : ((inner.drop (t / 2 * 2)).take 2)[t % 2]? = inner[t]? := by
   rw [List.getElem?_take_of_lt (by omega), List.getElem?_drop]
   congr 1; omega
  rw [← h1, hm]
  have h2 : t < l.toArray.size * 2 := by simpa using ht
  have h2' : t < (Go.Sort.flatK encC 2 l.toArray).size := by simpa using h2
  rw [show (Go.Sort.flatK encC 2 l.toArray).toList[t]? = (Go.Sort.flatK encC 2 l.toArray)[t]? from Array.getElem?_toList, Array.getElem?_eq_getElem h2']; have h3 := Go.Sort.get_flatK encC 2 l.toArray t h2; rw [getElem!_pos (Go.Sort.flatK encC 2 l.toArray) t h2'] at h3; rw [h3, getElem!_pos _ (t / 2) (by simpa using hj)]
  have h4 : t % 2 = 0 ∨ t % 2 = 1 := by omega
  rcases h4 with h4 | h4 <;> rw [h4] <;> simp [encC]
 ·rw [List.getElem?_eq_none (by omega), List.getElem?_eq_none (by simp; omega)]
theorem chunk_of (l : List (S37)) (w : World) (base : Nat) (ok : Nat → Prop) : Reps (k37.M w base ok) k37.sz l (Go.Sort.flatK encC 2 l.toArray).toList := by
 have hsz : k37.sz = 2 := rfl; rw [hsz]; refine ⟨by simp, fun j p hj => ?_⟩; obtain ⟨hjl, hp⟩ := List.getElem?_eq_some_iff.1 hj
 have e : (((Go.Sort.flatK encC 2 l.toArray).toList.drop (j * 2)).take 2) = encC p := by
  apply List.ext_getElem?
  intro t
  by_cases ht : t < 2
  ·rw [List.getElem?_take_of_lt ht, List.getElem?_drop]
   have h2 : j * 2 + t < l.toArray.size * 2 := by simp; omega
   rw [Array.getElem?_toList, Array.getElem?_eq_getElem (by simpa using h2)]; have h3 := Go.Sort.get_flatK encC 2 l.toArray (j * 2 + t) h2; rw [getElem!_pos _ _ (by simpa using h2)] at h3; rw [h3, show (j * 2 + t) / 2 = j by omega, show (j * 2 + t) % 2 = t by omega, getElem!_pos _ j (by simpa using hjl)]
   have : l.toArray[j]'(by simpa using hjl) = p := by simpa using hp
   rw [this]
   have h4 : t = 0 ∨ t = 1 := by omega
   rcases h4 with h4 | h4 <;> subst h4 <;> simp [encC]
  ·rw [List.getElem?_take_eq_none (by omega), List.getElem?_eq_none (by simp [encC]; omega)]
 rw [e]; exact k37_mkM w base ok p
theorem holds_cells {w : World} {g : Nat} {cur : Array Value} {e : TypeId} {F : Array Value} (hb : w.heap[g]? = some (.cells cur e (0, 0))) (ht : cur.toList.take F.size = F.toList) : Go.Sort.Holds id w g 0 F := by
 intro j hj; refine ⟨?_, by simp [World.frozen?, hb]⟩
 have h1 : (cur.toList.take F.size)[j]? = F.toList[j]? := by rw [ht]
 rw [List.getElem?_take_of_lt hj] at h1; simp only [World.cell?, hb, Nat.zero_add]; simp only [Option.isSome_none, Bool.false_eq_true, if_false]; rw [← Array.getElem?_toList, h1, Array.getElem?_toList, Array.getElem?_eq_getElem hj, getElem!_pos _ j hj]
 rfl
theorem heap_sortedK {w : World} {g n : Nat} {os : Array Obj} {cur : Array Value} {e : TypeId} {fr : Nat × Nat} (F : Array Value) (hb : w.heap[g]? = some (.cells cur e fr)) :
  (Go.Sort.grow (Go.Sort.putRow id (Go.Sort.ahead w n) g 0 F) os).heap[g]? = some (.cells (Go.Sort.putCells id 0 F cur) e fr) := by
 have hg : g < w.heap.size := (Array.getElem?_eq_some_iff.1 hb).1; rw [Go.Sort.heap_grow_old _ _ (by simpa using hg)]
 simp [Go.Sort.putRow, Go.Sort.mapBlock, Go.Sort.ahead, Array.getElem?_modify, hb, Go.Sort.onCells]
theorem grownBy_sortedK {w : World} {g n : Nat} {os : Array Obj} (F : Array Value) : w.grownBy (Go.Sort.grow (Go.Sort.putRow id (Go.Sort.ahead w n) g 0 F) os) (some g) := by
 refine ⟨rfl, rfl, rfl, by simp, fun k hk hne => ?_⟩; rw [Go.Sort.heap_grow_old _ _ (by simpa using hk)]
 have : g ≠ k := fun e => hne (by rw [e])
 simp [Go.Sort.putRow, Go.Sort.mapBlock, Go.Sort.ahead, Array.getElem?_modify, this]
theorem take_putCellsK (cur F : Array Value) (h : F.size ≤ cur.size) : (Go.Sort.putCells id 0 F cur).toList.take F.size = F.toList := by
 apply List.ext_getElem?
 intro j
 by_cases hj : j < F.size
 ·rw [List.getElem?_take_of_lt hj, Array.getElem?_toList]
  simp [Go.Sort.putCells, hj, show j < cur.size by omega]
 ·rw [List.getElem?_take_eq_none (by omega), List.getElem?_eq_none (by simpa using hj)]
theorem impl_compareCells.callsG (k : Nat) (a0_0 a0_1 a1_0 a1_1 r : Int) (w : World) (h : impl_compareCells.f k a0_0 a0_1 a1_0 a1_1 = some r) :
  Calls Tryz.prog 27 #[.agg #[.int .i64 a0_0, .int .i64 a0_1], .agg #[.int .i64 a1_0, .int .i64 a1_1]] w fun e w' => e = .returned (.int .i64 r) ∧ ∃ q os', w' = Go.Sort.grow (w.drewN q) os' := by
 obtain ⟨W2, hW2⟩ : ∃ W2, W2 = ((w.alloc (Obj.cells #[Value.int IntKind.i64 a0_0, Value.int IntKind.i64 a0_1] 37)).alloc (Obj.cells #[Value.int IntKind.i64 a1_0, Value.int IntKind.i64 a1_1] 37)) := ⟨_, rfl⟩
 have g0 : W2.heap[w.heap.size]? = some (Obj.cells #[Value.int IntKind.i64 a0_0, Value.int IntKind.i64 a0_1] 37) := by
  rw [hW2, heap_alloc_old]
  ·exact heap_alloc_new w _
  ·show w.heap.size < (w.heap.push _).size
   simp
 have g1 : W2.heap[w.heap.size + 1]? = some (Obj.cells #[Value.int IntKind.i64 a1_0, Value.int IntKind.i64 a1_1] 37) := by
  rw [hW2]; exact heap_alloc2_new w _ _
 have hB : Below w.heap.size w W2 := by
  rw [hW2]; repeat (first | exact Below.refl _ _ | apply below_alloc)
 have hC0 : Kd.C (Kd.int .i64) W2 (some ⟨w.heap.size, 0, none⟩) ([a0_0, a0_1] : List Int).length [a0_0, a0_1] := Kd.C_of_reads (enc := Value.int .i64) (d := 0) (h1 := fun _ => rfl) ⟨rfl, (by show 2 ≤ 9223372036854775807; omega), fun _ => ⟨_, rfl, fun j hj => by
  rcases (show j = 0 ∨ j = 1 by simp at hj; omega) with rfl | rfl
  ·simp [World.cell?, Addr.add, g0]
  ·simp [World.cell?, Addr.add, g0]⟩⟩
 have hC1 : Kd.C (Kd.int .i64) W2 (some ⟨w.heap.size + 1, 0, none⟩) ([a1_0, a1_1] : List Int).length [a1_0, a1_1] := Kd.C_of_reads (enc := Value.int .i64) (d := 0) (h1 := fun _ => rfl) ⟨rfl, (by show 2 ≤ 9223372036854775807; omega), fun _ => ⟨_, rfl, fun j hj => by
  rcases (show j = 0 ∨ j = 1 by simp at hj; omega) with rfl | rfl
  ·simp [World.cell?, Addr.add, g1]
  ·simp [World.cell?, Addr.add, g1]⟩⟩
 have hcall : ∀ n : Nat, Calls Tryz.prog 58 #[.slice (some ⟨w.heap.size, 0, none⟩) 2 2, .slice (some ⟨w.heap.size + 1, 0, none⟩) 2 2] (W2.drewN n) fun e w' => e = .returned (.int .i64 r) ∧ Drawn0 (W2.drewN n) w' := fun n => slices_Compare.calls k _ _ [a0_0, a0_1] _ _ [a1_0, a1_1] r _ (Kd.C_drewN hC0 n) (Nat.le_refl 2) (Kd.C_drewN hC1 n) (Nat.le_refl 2) h
 subst hW2
 go_enter Tryz.func27, Tryz.ntmps27
 go_wp2
 go_quiet ((go_at_call 58; refine (hcall _).mono ?_; rintro e w' ⟨rfl, ⟨nd, rfl⟩⟩; (try exact ⟨rfl, _, World.drewN_drewN _ _ _⟩)))
 go_wp2; go_ret; exact ⟨rfl, _, _, by rw [Go.Sort.alloc_eq_grow, Go.Sort.alloc_eq_grow, Go.Sort.grow_grow]; rfl⟩
theorem below_grownC (w : World) (q : Nat) (os : Array Obj) : Below w.heap.size w (Go.Sort.grow (w.drewN q) os) := ⟨rfl, rfl, rfl, by simp [Go.Sort.grow], fun k hk => Go.Sort.heap_grow_old (w.drewN q) os hk⟩
theorem compareCells_val (x y : S37) : impl_compareCells.f 4 x.f0 x.f1 y.f0 y.f1 = some (cmpC x y) := by
 unfold impl_compareCells.f slices_Compare.f cmpC
 have e0 : rd [x.f0, x.f1] 0 = x.f0 := rfl; have e1 : rd [x.f0, x.f1] 1 = x.f1 := rfl; have e2 : rd [y.f0, y.f1] 0 = y.f0 := rfl; have e3 : rd [y.f0, y.f1] 1 = y.f1 := rfl
 have w0 : wrap64 ((0 : Int) + 1) = 1 := by unfold wrap64; omega
 have w1 : wrap64 ((1 : Int) + 1) = 2 := by unfold wrap64; omega
 have cmp : ∀ a b : Int, cmp_Compare.f a b = some (if a < b then -1 else if a > b then 1 else 0) := by
  intro a b
  unfold cmp_Compare.f cmp_isNaN.f
  simp only [bne_self_eq_false, Option.bind_some, if_neg Bool.false_ne_true]
  split
  ·rfl
  ·split <;> rfl
 simp only [slices_Compare.l0, cmp, e0, e1, e2, e3, w0, w1, Option.bind_some]
 simp
 by_cases h0 : x.f0 < y.f0
 ·simp [h0]
 ·by_cases h1 : y.f0 < x.f0
  ·simp [h0, h1]
  ·by_cases h2 : x.f1 < y.f1
   ·simp [h0, h1, h2]
   ·by_cases h3 : y.f1 < x.f1 <;> simp [h0, h1, h2, h3]
theorem slices_SortFunc_compareCells.calls (P0_ : Nat → Prop) (u9000_ : Value) (l0 : List (S37)) (r : List (S37)) (w0 w : World) (hB : Below w0.heap.size w0 w) (ho0 : Kd.R k37 37 w w0.heap.size P0_ u9000_ l0) (h : slices_SortFunc_compareCells.f l0 = some r) :
  Calls Tryz.prog 64 #[u9000_, .func (.func 27) #[] #[]] w fun e w' => e = .returned (.tuple #[]) ∧ Kd.R k37 37 w' w0.heap.size (fun k_ => (P0_ k_ ∨ w.heap.size ≤ k_)) u9000_ r ∧ Below w0.heap.size w0 w' ∧ Kept w w' (fun k_ => P0_ k_) := by
 unfold slices_SortFunc_compareCells.f at h
 by_cases hz : ¬ (0 < l0.length ∧ l0.length < 4611686018427387904)
 ·rw [if_neg hz] at h; cases h
 replace hz := Classical.not_not.1 hz; rw [if_pos hz] at h; obtain rfl := Option.some.inj h; obtain ⟨hok, inner, ⟨ho1, ho2⟩, hr⟩ := ho0
 rcases ho2 with ⟨_, hn⟩ | ⟨g, cap, cur, rfl, hbase, hcur, h1, h2, h3, h4⟩
 ·omega
 have hin := chunk_at hr; have hsz : k37.sz = 2 := rfl; rw [hsz] at h3 h4
 have hF : (Go.Sort.flatK encC 2 l0.toArray).size = l0.length * 2 := by simp
 have hH : Go.Sort.HoldsK encC 2 w g 0 l0.toArray := holds_cells hcur (by rw [hF, h4, hin]); have hblk : g < w.heap.size := (Array.getElem?_eq_some_iff.1 hcur).1
 have hbig : l0.toArray.size < 4611686018427387904 := by
  simpa using hz.2
 have eg : ∀ args W, (callFunc 27 args).run Tryz.prog W = .ok (.enter 27 args) W := enters_of Tryz.func27 (by kernel_rfl) rfl
 have hcmp : CmpLays Tryz.prog 27 #[] encC 2 cmpC g 0 l0.toArray.size w := fun m os dk hs x y => impl_compareCells.callsG 4 x.f0 x.f1 y.f0 y.f1 (cmpC x y) _ (compareCells_val x y)
 have hcon := AnyQ.slices_SortFunc_eq Tryz.sortCells 2 Tryz.isAgg37 Tryz.sizeOf37 encC enc_len (fun x v hv => by simp [encC] at hv; rcases hv with rfl | rfl <;> rfl) cmpC swoC 27 #[] g 0 cap l0.toArray w eg hcmp hH hblk hbig
 have hcon2 : Calls Tryz.prog 64 #[.slice (some ⟨g, 0, none⟩) l0.length cap, .func (.func 27) #[] #[]] w fun e w' => e = .returned (.tuple #[]) ∧ ∃ n os, w' = sortWorldK encC 2 w g 0 n (sortC l0).toArray os := hcon
 refine hcon2.mono ?_
 rintro e w' ⟨rfl, n, os, rfl⟩
 have hperm := (sortC_perm l0).1.1
 have hlen : (sortC l0).length = l0.length := by
  unfold sortC; rw [Array.length_toList]; simpa using hperm
 have hgr := grownBy_sortedK (w := w) (g := g) (n := n) (os := os) (Go.Sort.flatK encC 2 (sortC l0).toArray); refine ⟨rfl, ⟨fun k hk => Or.inl (hok k hk), (Go.Sort.flatK encC 2 (sortC l0).toArray).toList, ⟨?_, Or.inr ⟨g, cap, _, ?_, hbase, heap_sortedK _ hcur, ?_, h2, ?_, ?_⟩⟩, chunk_of _ _ _ _⟩, hB.grown hgr hB.size (fun k hk => by cases hk; exact hbase), Kept.of_grown hgr (Kept.refl w _) (fun k hk => by cases hk; exact Or.inl (hok g rfl))⟩
 ·simp [hlen, hsz]
 ·rw [hlen]
 ·rw [hlen]; exact h1
 ·simp [Go.Sort.putCells, h3, hsz]
 ·have hF2 : (Go.Sort.flatK encC 2 (sortC l0).toArray).size = (sortC l0).length * k37.sz := by simp [hsz]
  rw [← hF2]; exact take_putCellsK cur _ (by rw [hF2, hsz, h3, hlen]; omega)
end Go.Proofs.YtckhmeadflafaaaGreat.XFc
