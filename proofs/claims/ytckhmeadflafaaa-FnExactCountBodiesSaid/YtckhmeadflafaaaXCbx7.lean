/- Functions of the program as plain Lean functions, each with the proof that the machine's call does what it says: written by a program of this session out of the translation. -/
import Derived.Test.YtckhmeadflafaaaXCbx0
import Derived.Test.YtckhmeadflafaaaXCbx6
namespace Go.Proofs.Ytckhmeadflafaaa.XCb
open Go.RowKit Go.Proofs.YtckhmeadflafaaaW.PrintWords Go.Proofs.YtckhmeadflafaaaW.PrintLast Go.Proofs.YtckhmeadflafaaaW.PrintMore
attribute [local go_sem] max2_int min2_int max_two min_two max_three min_three max_four min_four   -- for this text's walks alone
set_option linter.unusedVariables false
set_option linter.unusedSimpArgs false

/-! ### spec_l8Hangs: function 65 -/
mutual
def spec_l8Hangs.l0 : Nat → List (S49) → List Bool → List Int → Int → Option (Bool)
 | 0, _, _, _, _ => none
 | k + 1, x0, x3, x4, x5 => if x5 < (x4.length : Int) then (spec_l8Hangs.l1 k x0 x3 x4 x5 0) else (some ((x4.length : Int) == (x0.length : Int)))
def spec_l8Hangs.l1 : Nat → List (S49) → List Bool → List Int → Int → Int → Option (Bool)
 | 0, _, _, _, _, _ => none
 | k + 1, x0, x3, x4, x5, x6 => if x6 < (x0.length : Int) then (if 0 ≤ x6 then (if x6 < (x3.length : Int) then (if rdOf false x3 x6 = true then (spec_l8Hangs.l1 k x0 x3 x4 x5 (wrap64 (x6 + 1))) else (if 0 ≤ x5 then (if x5 < (x4.length : Int) then (if 0 ≤ (rd x4 x5) then (if (rd x4 x5) < (x0.length : Int) then ((spec_l8Near.f ((rd_T49 x0 x6).f0) ((rd_T49 x0 x6).f1) ((rd_T49 x0 (rd x4 x5)).f0) ((rd_T49 x0 (rd x4 x5)).f1)).bind fun t158 => (if t158 = true then (if x4.length < 17592186044416 then (spec_l8Hangs.l1 k x0 (x3.set (x6 : Int).toNat true) (x4 ++ [x6]) x5 (wrap64 (x6 + 1))) else (none)) else (spec_l8Hangs.l1 k x0 x3 x4 x5 (wrap64 (x6 + 1))))) else (none)) else (none)) else (none)) else (none))) else (none)) else (none)) else (spec_l8Hangs.l0 k x0 x3 x4 (wrap64 (x5 + 1)))
end
def spec_l8Hangs.f (k : Nat) (l0 : List (S49)) : Option (Bool) := if 0 ≤ (l0.length : Int) then (if ((l0.length : Int) : Int).toNat ≤ 281474976710656 then ((some (List.replicate ((l0.length : Int) : Int).toNat false : List Bool)).bind fun y147 => (if 0 < (y147.length : Int) then (spec_l8Hangs.l0 k l0 (y147.set (0 : Int).toNat true) (([0] : List Int)) 0) else (none))) else (none)) else (none)
theorem spec_l8Hangs.mono_l : ∀ k, (∀ y0 y1 y2 y3, LeO (spec_l8Hangs.l0 k y0 y1 y2 y3) (spec_l8Hangs.l0 (k + 1) y0 y1 y2 y3)) ∧ (∀ y0 y1 y2 y3 y4, LeO (spec_l8Hangs.l1 k y0 y1 y2 y3 y4) (spec_l8Hangs.l1 (k + 1) y0 y1 y2 y3 y4))
 | 0 => ⟨fun _ _ _ _ r h => by simp [spec_l8Hangs.l0] at h, fun _ _ _ _ _ r h => by simp [spec_l8Hangs.l1] at h⟩
 | k + 1 => by
  obtain ⟨ih0, ih1⟩ := spec_l8Hangs.mono_l k; refine ⟨?_, ?_⟩
  ·intro y0 y1 y2 y3
   unfold spec_l8Hangs.l0
   repeat' first
   | (with_reducible exact ih0 _ _ _ _)
   | (with_reducible exact ih1 _ _ _ _ _)
   | (with_reducible exact LeO.refl _)
   | (with_reducible exact LeO.none _)
   | (with_reducible refine LeO.ite ?_ ?_)
   | (with_reducible refine LeO.bind ?_ (fun _ => ?_))
  ·intro y0 y1 y2 y3 y4
   unfold spec_l8Hangs.l1
   repeat' first
   | (with_reducible exact ih0 _ _ _ _)
   | (with_reducible exact ih1 _ _ _ _ _)
   | (with_reducible exact LeO.refl _)
   | (with_reducible exact LeO.none _)
   | (with_reducible refine LeO.ite ?_ ?_)
   | (with_reducible refine LeO.bind ?_ (fun _ => ?_))
theorem spec_l8Hangs.mono : ∀ a0 k, LeO (spec_l8Hangs.f k a0) (spec_l8Hangs.f (k + 1) a0) := by
 intro a0 k; obtain ⟨ih0, ih1⟩ := spec_l8Hangs.mono_l k
 unfold spec_l8Hangs.f
 repeat' first
   | (with_reducible exact ih0 _ _ _ _)
   | (with_reducible exact ih1 _ _ _ _ _)
   | (with_reducible exact LeO.refl _)
   | (with_reducible exact LeO.none _)
   | (with_reducible refine LeO.ite ?_ ?_)
   | (with_reducible refine LeO.bind ?_ (fun _ => ?_))
def spec_l8Hangs.T10 : Bool × List (List Nat × List Nat) := (true, [([], []), ([], []), ([0, 1], [0, 1]), ([2], [2]), ([3], [3]), ([4], [4]), ([5], [5]), ([5], [5]), ([6, 7, 5], [5, 6, 7]), ([8, 5], [5, 8]), ([5], [5]), ([5], [5]), ([5], [5]), ([11, 12, 5], [5, 11, 12]), ([13, 5], [5, 13]), ([10, 14, 5], [5, 10, 14]), ([15, 5], [5, 15]), ([9, 16, 5, 5], [5, 9, 16]), ([5, 17], [5, 17])])
def spec_l8Hangs.B10 : List Nat := [0, 0, 3, 7, 15, 31, 63, 63, 255, 511, 63, 63, 63, 6207, 14399, 31807, 64575, 131071, 262143]
theorem spec_l8Hangs.tab10 : rtab .any (opsOf Try.f65 10) = spec_l8Hangs.T10 := by kernel_rfl
theorem spec_l8Hangs.bits10 : waitsOk spec_l8Hangs.T10.2 spec_l8Hangs.B10 = true := by kernel_rfl
set_option maxHeartbeats 8000000 in
set_option maxRecDepth 100000 in
theorem spec_l8Hangs.calls (k : Nat) (A0 : Option Addr) (c0 : Nat) (l0 : List (S49)) (r : Bool) (w : World) (hr0 : Kd.C k49 w A0 l0.length l0) (hc0 : l0.length ≤ c0) (h : spec_l8Hangs.f k l0 = some r) :
  Calls Try.prog 65 #[.slice A0 l0.length c0] w fun e w' => e = .returned (.bool r) ∧ Below w.heap.size w w' := by
 have hu49 := Try.underlying49; have HR0 := ak hr0; have HC0 := ak hc0; clear hr0 hc0; have HB := ak (Below.refl w.heap.size w); have H : (if 0 ≤ (l0.length : Int) then (if ((l0.length : Int) : Int).toNat ≤ 281474976710656 then ((some (List.replicate ((l0.length : Int) : Int).toNat false : List Bool)).bind fun y147 => (if 0 < (y147.length : Int) then (spec_l8Hangs.l0 k l0 (y147.set (0 : Int).toNat true) (([0] : List Int)) 0) else (none))) else (none)) else (none)) = some r := h; clear h
 by_cases c2 : 0 ≤ (l0.length : Int)
 ·rw [if_pos c2] at H
  have c2b0 := eq_true c2; have c2b1 := decide_eq_true c2; clear c2
  by_cases c3 : ((l0.length : Int) : Int).toNat ≤ 281474976710656
  ·rw [if_pos c3] at H
   have c3b0 := eq_true c3; have c3b1 := decide_eq_true c3; clear c3; obtain ⟨y147, hy147⟩ : ∃ y_ : List Bool, y_ = (List.replicate ((l0.length : Int) : Int).toNat false) := ⟨_, rfl⟩
   replace H : (if 0 < (y147.length : Int) then (spec_l8Hangs.l0 k l0 (y147.set (0 : Int).toNat true) (([0] : List Int)) 0) else (none)) = some r := by first | (rw [hy147]; with_reducible exact H) | (have H2_ := (Option.bind_some _ _).symm.trans H; rw [hy147]; with_reducible exact H2_) | (have H2_ := (Option.bind_some _ _).symm.trans H; with_reducible exact H2_) | with_reducible exact H | (rw [hy147]; exact H) | exact H
   have Ny147 := ak hy147; clear hy147; obtain ⟨y150, hy150⟩ : ∃ y_ : List Int, y_ = (([0] : List Int)) := ⟨_, rfl⟩
   replace H : (if 0 < (y147.length : Int) then (spec_l8Hangs.l0 k l0 (y147.set (0 : Int).toNat true) y150 0) else (none)) = some r := by first | (rw [hy150]; with_reducible exact H) | (have H2_ := (Option.bind_some _ _).symm.trans H; rw [hy150]; with_reducible exact H2_) | (have H2_ := (Option.bind_some _ _).symm.trans H; with_reducible exact H2_) | with_reducible exact H | (rw [hy150]; exact H) | exact H
   have Ny150 := ak hy150; clear hy150
   by_cases c4 : 0 < (y147.length : Int)
   ·rw [if_pos c4] at H
    have c4b0 := decide_eq_true c4; have c4b1 : decide (0 < y147.length) = true := decide_eq_true (by omega); clear c4; obtain ⟨y153, hy153⟩ : ∃ y_ : List Bool, y_ = (y147.set (0 : Int).toNat true) := ⟨_, rfl⟩
    replace H : (spec_l8Hangs.l0 k l0 y153 y150 0) = some r := by first | (rw [hy153]; with_reducible exact H) | (have H2_ := (Option.bind_some _ _).symm.trans H; rw [hy153]; with_reducible exact H2_) | (have H2_ := (Option.bind_some _ _).symm.trans H; with_reducible exact H2_) | with_reducible exact H | (rw [hy153]; exact H) | exact H
    have Ny153 := ak hy153; clear hy153; have H' := ak H; clear H
    go_enter Try.func65, Try.ntmps65
    go_wp2_with (first | ((with_reducible refine gate_dst (N := 9) rfl ?_); refine Kd.R_make Kd.bool _ 4 rfl (N := 9) rfl 92 _ _ rfl (l0.length : Int) rfl rfl Try.underlying92 (.bool false) 1 info4 rfl (by decide) (by omega) false (ok := fun _ => True) (okp := fun _ => True) rfl (fun _ hk => hk) trivial (dq) (Nat.le_trans (Nat.mul_le_mul_right _ (dq : (l0.length : Int).toNat ≤ 281474976710656)) (by omega)) (Below.refl _ _) (Nat.le_refl _) ?_; intro v148 w6 ho7 hb hg_ hnew_; clear hg_ hnew_; (first | rw [← Ny147.out] at ho7 | (simp only [Int.reduceToNat] at ho7; rw [← Ny147.out] at ho7)); have n0_ := ak (Kd.R_lower ho7 (below_size bq)); have n1_ := ak (below_step bq hb); clear HB; have HO149 := n0_; have HB := n1_; clear n0_ n1_; clear hb ho7) | ((with_reducible refine gate_dst (N := 10) rfl ?_); refine Kd.R_lit (Kd.int .i64) _ 3 ?hg (N := 10) ?hd (xs := ([0] : List Int)) (inner := [.int .i64 0]) (ok := fun _ => True) (okp := fun _ => True) ?hr ?hp (fun _ hk => hk) trivial (Below.refl _ _) (Nat.le_refl _) (by simp) ?_; (case hd => rfl); (case hg => rfl); (case hr => first | (go_simp; done) | (go_simp; rfl)); (case hp => exact (Reps.one (show Kd.M (Kd.int .i64) _ _ _ 0 [.int .i64 0] from rfl) (Reps.none _ _))); intro v151 w8 ho9 hb hg_ hnew_; clear hg_ hnew_; (first | rw [← Ny150.out] at ho9 | (simp only [Int.reduceToNat] at ho9; rw [← Ny150.out] at ho9)); have n0_ := ak (Kd.R_below (rq HO149) hb); have n1_ := ak (Kd.R_lower ho9 (below_size bq)); have n2_ := ak (below_step bq hb); clear HO149; clear HB; have HO149 := n0_; have HO152 := n1_; have HB := n2_; clear n0_ n1_ n2_; clear hb ho9; have p5 : 0 ≤ (0 : Int) := (by omega); have q5 : (0 : Int) < ((y147.length : Int) : Int) := dq; have qi5 : (0 < y147.length) = True := eq_true (by omega); obtain ⟨go5, co5, eo5, gb5, gl5, cl5, HG5⟩ := Kd.R_form HO149.out (by omega); (first | cases eo5 | (injection eo5 with ea_ en_ ec_; (first | subst ea_ | (injection ea_ with ea_; subst ea_)); subst ec_; clear en_)); have GB5 := ak gb5; have GG5 := ak HG5; clear gb5 gl5 HG5; obtain ⟨hx5_0, hf5_0⟩ := Kd.R_celln false HO149.out (0 : Int) p5 q5; (try rw [show ((0 : Int)).toNat = 0 from rfl] at hx5_0); (try simp only [Nat.reduceMul, Nat.zero_mul, Nat.zero_add, Nat.reduceAdd] at hx5_0); (try rw [show ((0 : Int)).toNat = 0 from rfl] at hf5_0); (try simp only [Nat.reduceMul, Nat.zero_mul, Nat.zero_add, Nat.reduceAdd] at hf5_0); replace p5 := eq_true p5; replace q5 := eq_true q5; obtain ⟨hy10_, hz10_⟩ := Kd.R_celln false HO149.out (0 : Int) (by omega) (dq); (try simp only [Int.reduceToNat, Int.toNat_zero, Int.toNat_ofNat, Nat.reduceMul, Nat.zero_mul, Nat.zero_add] at hy10_ hz10_); (try rw [show ((0 : Int)).toNat = 0 from rfl] at hy10_); (try rw [show ((0 : Int)).toNat = 0 from rfl] at hz10_); have HP10 := Kd.R_putg HO149.out (0 : Int) true) | ((with_reducible refine gate_store (t := 4) (p := 12) rfl ?_); refine store_event (t := 4) (p := 12) (v := ?vo_w11) (w1 := (w8.setCell ⟨go5, (0 : Int).toNat, none⟩ (.bool true))) ?hg ?ho ?hn ?hr ?_; (case ho => rfl); (case hg => rfl); (case hn => rfl); (case hr => first | (go_simp; done) | (go_simp; rfl)); intro w11 hw; have hg : w8.grownBy w11 (some go5) := (by rw [hw]; exact HP10.2); have hp_ : Kd.R Kd.bool 4 w11 w.heap.size (fun _ => True) (.slice (some ⟨go5, 0, none⟩) y147.length co5) y153 := (by rw [hw, Ny153.out]; exact HP10.1); clear HP10; have n0_ := ak (hp_); have n1_ := ak (Kd.R_over' (v := (.slice (some ⟨go5, 0, none⟩) y147.length co5)) (rq HO152) (Kd.R_typed HO149.out) (by decide) hg); have n2_ := ak ((by rw [hw]; exact below_set (HB.out) GB5.out : Below w.heap.size w w11)); clear HO149; clear HO152; clear HB; have HO149 := n0_; have HO152 := n1_; have HB := n2_; clear n0_ n1_ n2_; clear hg hw hp_))
    (try simp only [Act.put, sA, sZ, sS])
    go_loopg [4, 5] k (fun kq v4 v5 w' => ∃ (x3_1 : List Bool) (x4_1 : List Int) (x5_1 : Int), v5 = .int .i64 x5_1 ∧ Aside0 (spec_l8Hangs.l0 kq l0 x3_1 x4_1 x5_1 = some r) ∧ Aside0 (kq ≤ k) ∧ Aside0 (Kd.R Kd.bool 4 w' w.heap.size (fun _ => True) (.slice (some ⟨go5, 0, none⟩) y147.length co5) x3_1) ∧ Aside0 (Kd.R (Kd.int .i64) 3 w' w.heap.size (fun _ => True) v4 x4_1) ∧ Aside0 (Below w.heap.size w w'))
    case atStart => exact ⟨(y153), (y150), (0), sq, H', ⟨Nat.le_refl _⟩, ⟨rq HO149⟩, ⟨rq HO152⟩, ⟨bq⟩⟩
    case round =>
     clear H'; (try clear c2); (try clear c2b0); (try clear c2b1); (try clear p2); (try clear c3); (try clear c3b0); (try clear c3b1); (try clear c4); (try clear c4b0); (try clear c4b1); (try clear p5); (try clear q5); (try clear hx5); (try clear qi5); (try clear hf5); (try clear c6); (try clear hx5_0); (try clear p5); (try clear q5); obtain ⟨x3_1, x4_1, x5_1, rfl, HA, HK1, HO_3, HO_4, HB⟩ := hrel; have hl3_1 := (Kd.R_reads' HO_3.out).1; rw [hl3_1] at HO_3
     (try simp only [hl3_1])
     (try simp only [hl3_1] at HO_4)
     cases gk with
     | zero => exact absurd HA.out (by simp [spec_l8Hangs.l0])
     | succ k1 =>
      have H := HA.out; clear HA; simp only [spec_l8Hangs.l0] at H
      by_cases c12 : x5_1 < (x4_1.length : Int)
      ·rw [if_pos c12] at H
       have c12b0 := decide_eq_true c12; clear c12; have H' := ak H; clear H; obtain ⟨Ao13, co13, eo13⟩ := Kd.R_slice HO_4.out; subst eo13; go_wp2
       go_loopg [4, 6] k1 (fun kq v4 v6 w' => ∃ (x3_2 : List Bool) (x4_2 : List Int) (x6_2 : Int), v6 = .int .i64 x6_2 ∧ Aside0 (spec_l8Hangs.l1 kq l0 x3_2 x4_2 x5_1 x6_2 = some r) ∧ Aside0 (kq ≤ k1) ∧ Aside0 (Kd.R Kd.bool 4 w' w.heap.size (fun _ => True) (.slice (some ⟨go5, 0, none⟩) x3_1.length co5) x3_2) ∧ Aside0 (Kd.R (Kd.int .i64) 3 w' w.heap.size (fun _ => True) v4 x4_2) ∧ Aside0 (Below w.heap.size w w'))
       case atStart => exact ⟨(x3_1), (x4_1), (0), sq, H', ⟨Nat.le_refl _⟩, ⟨by (try simp only [hl3_1]); (with_reducible repeat (first | apply Kd.R_alloc | apply Kd.R_drewN | apply Kd.R_drew)); exact HO_3.out⟩, ⟨by (try simp only [hl3_1]); (with_reducible repeat (first | apply Kd.R_alloc | apply Kd.R_drewN | apply Kd.R_drew)); exact HO_4.out⟩, ⟨bq⟩⟩
       case round =>
        clear H'; (try clear c1); (try clear c2); (try clear c2b0); (try clear c2b1); (try clear p2); (try clear c3); (try clear c3b0); (try clear c3b1); (try clear c4); (try clear c4b0); (try clear c4b1); (try clear p5); (try clear q5); (try clear hx5); (try clear qi5); (try clear hf5); (try clear c6); (try clear c12); (try clear c12b0); (try clear hx5_0); (try clear p2); (try clear p5); (try clear q5); obtain ⟨x3_2, x4_2, x6_2, rfl, HA, HK2, HO_3, HO_4, HB⟩ := hrel; have hl3_2 := (Kd.R_reads' HO_3.out).1; rw [hl3_2] at HO_3
        (try simp only [hl3_2])
        (try simp only [hl3_2] at HO_4)
        cases gk with
        | zero => exact absurd HA.out (by simp [spec_l8Hangs.l1])
        | succ k2 =>
         have H := HA.out; clear HA; simp only [spec_l8Hangs.l1] at H
         by_cases c14 : x6_2 < (l0.length : Int)
         ·rw [if_pos c14] at H
          have c14b0 := decide_eq_true c14; clear c14
          by_cases c15 : 0 ≤ x6_2
          ·rw [if_pos c15] at H
           have c15b0 := decide_eq_true c15; clear c15
           by_cases c16 : x6_2 < (x3_2.length : Int)
           ·rw [if_pos c16] at H
            have c16b0 := decide_eq_true c16; clear c16; obtain ⟨bq17, hbq17⟩ : ∃ b_ : Bool, b_ = (rdOf false x3_2 x6_2) := ⟨_, rfl⟩
            replace H : (if bq17 = true then (spec_l8Hangs.l1 k2 l0 x3_2 x4_2 x5_1 (wrap64 (x6_2 + 1))) else (if 0 ≤ x5_1 then (if x5_1 < (x4_2.length : Int) then (if 0 ≤ (rd x4_2 x5_1) then (if (rd x4_2 x5_1) < (l0.length : Int) then ((spec_l8Near.f ((rd_T49 l0 x6_2).f0) ((rd_T49 l0 x6_2).f1) ((rd_T49 l0 (rd x4_2 x5_1)).f0) ((rd_T49 l0 (rd x4_2 x5_1)).f1)).bind fun t158 => (if t158 = true then (if x4_2.length < 17592186044416 then (spec_l8Hangs.l1 k2 l0 (x3_2.set (x6_2 : Int).toNat true) (x4_2 ++ [x6_2]) x5_1 (wrap64 (x6_2 + 1))) else (none)) else (spec_l8Hangs.l1 k2 l0 x3_2 x4_2 x5_1 (wrap64 (x6_2 + 1))))) else (none)) else (none)) else (none)) else (none))) = some r := by rw [← hbq17] at H; exact H
            have Nbq17 := ak hbq17; clear hbq17
            by_cases c18 : bq17 = true
            ·subst c18
             rw [if_pos rfl] at H; have H' := ak H; clear H; (try go_wp2); have n0_ := ak (Kd.R_drew HO_3.out); have n1_ := ak (Kd.R_drew HO_4.out); have n2_ := ak (below_drew1 HB.out); clear HO_3; clear HO_4; clear HB; have HO_3 := n0_; have HO_4 := n1_; have HB := n2_; clear n0_ n1_ n2_; have p154 : 0 ≤ (x6_2 : Int) := dq; have q154 : x6_2 < (x3_2.length : Int) := dq; obtain ⟨ad154, e154, hx154_0⟩ := Kd.at_bool (Kd.R_reads' HO_3.out).2.2 x6_2 p154 q154
             (try rw [← Nbq17.out] at hx154_0)
             obtain rfl : (⟨go5, 0, none⟩ : Addr) = ad154 := (by injection e154)
             (first | simp only [add_plain] at hx154_0 | simp only [add_at] at hx154_0 | simp only [Addr.add, Nat.zero_add] at hx154_0 | skip)
             replace p154 := eq_true p154; replace q154 := eq_true q154; refine start_ (n := 19) (S := fun w' => w'.cell? ⟨go5, (x6_2).toNat, none⟩ = some (.bool true)) (ds := []) #[Z,Z,Z,Z,Z,Z,Z,Z,Z,Z,Z,Z,Z,Z,Z,Z,Z,Z,Z] (by kernel_rfl) rfl rfl (hx154_0) (fun hHeld => ?_); refine with_tabW spec_l8Hangs.tab10 spec_l8Hangs.bits10 (fun HT_ HW_ => ?_)
             generalize wr.drew = w19 at HO_3 HO_4 HB hx154_0 hHeld ⊢
             refine pq_ (i := 0) (N := some 25) #[Y,Z,Z,Z,Z,Z,Z,Z,Z,Z,Z,Z,Z,Z,Z,Z,Z,Z,Z] HT_ ?_; refine pq_ (i := 1) (N := some 26) #[Y,Y,Z,Z,Z,Z,Z,Z,Z,Z,Z,Z,Z,Z,Z,Z,Z,Z,Z] HT_ ?_; refine pq_ (i := 2) (N := some 27) #[Y,Y,Y,Z,Z,Z,Z,Z,Z,Z,Z,Z,Z,Z,Z,Z,Z,Z,Z] HT_ ?_; refine take_ (i := 3) (N := some 28) (v := ?_) (a' := ?_) #[Y,Y,Y,Y,Z,Z,Z,Z,Z,Z,Z,Z,Z,Z,Z,Z,Z,Z,Z] rfl rfl (take_ofW HT_.out HW_.out (by kernel_rfl)) (fun _ _ _ h => h) (Or.inl ⟨by rfl, ?_⟩) hHeld ?_ ?_; rotate_left
             ·intro w' s0
              go_simp
              with_reducible rfl
             rotate_left
             ·simp only [Act.put, sA, sZ, sS, i64_w, i32_w]
              rfl
             refine pq_ (i := 4) (N := some 29) #[Y,Y,Y,Y,Y,Z,Z,Z,Z,Z,Z,Z,Z,Z,Z,Z,Z,Z,Z] HT_ ?_; refine pq_ (i := 5) (N := some 30) #[Y,Y,Y,Y,Y,Y,Z,Z,Z,Z,Z,Z,Z,Z,Z,Z,Z,Z,Z] HT_ ?_; refine pz_ (i := 6) (N := some 31) (v := undef) #[Y,Y,Y,Y,Y,Y,Y,Z,Z,Z,Z,Z,Z,Z,Z,Z,Z,Z,Z] HT_ ?_; refine pz_ (i := 7) (N := some 32) (v := undef) #[Y,Y,Y,Y,Y,Y,Y,Y,Z,Z,Z,Z,Z,Z,Z,Z,Z,Z,Z] HT_ ?_; refine pz_ (i := 8) (N := some 33) (v := undef) #[Y,Y,Y,Y,Y,Y,Y,Y,Y,Z,Z,Z,Z,Z,Z,Z,Z,Z,Z] HT_ ?_; refine pz_ (i := 9) (N := some 34) (v := undef) #[Y,Y,Y,Y,Y,Y,Y,Y,Y,Y,Z,Z,Z,Z,Z,Z,Z,Z,Z] HT_ ?_; refine pz_ (i := 10) (N := some 35) (v := undef) #[Y,Y,Y,Y,Y,Y,Y,Y,Y,Y,Y,Z,Z,Z,Z,Z,Z,Z,Z] HT_ ?_; refine pz_ (i := 11) (N := some 36) (v := undef) #[Y,Y,Y,Y,Y,Y,Y,Y,Y,Y,Y,Y,Z,Z,Z,Z,Z,Z,Z] HT_ ?_; refine pz_ (i := 12) (N := some 37) (v := undef) #[Y,Y,Y,Y,Y,Y,Y,Y,Y,Y,Y,Y,Y,Z,Z,Z,Z,Z,Z] HT_ ?_; refine pz_ (i := 13) (N := some 38) (v := undef) #[Y,Y,Y,Y,Y,Y,Y,Y,Y,Y,Y,Y,Y,Y,Z,Z,Z,Z,Z] HT_ ?_; refine pz_ (i := 14) (N := some 39) (v := undef) #[Y,Y,Y,Y,Y,Y,Y,Y,Y,Y,Y,Y,Y,Y,Y,Z,Z,Z,Z] HT_ ?_; refine pz_ (i := 15) (N := some 40) (v := undef) #[Y,Y,Y,Y,Y,Y,Y,Y,Y,Y,Y,Y,Y,Y,Y,Y,Z,Z,Z] HT_ ?_; refine pz_ (i := 16) (N := some 41) (v := undef) #[Y,Y,Y,Y,Y,Y,Y,Y,Y,Y,Y,Y,Y,Y,Y,Y,Y,Z,Z] HT_ ?_; refine pz_ (i := 17) (N := some 42) (v := undef) #[Y,Y,Y,Y,Y,Y,Y,Y,Y,Y,Y,Y,Y,Y,Y,Y,Y,Y,Z] HT_ ?_; refine pq_ (i := 18) (N := some 43) #[Y,Y,Y,Y,Y,Y,Y,Y,Y,Y,Y,Y,Y,Y,Y,Y,Y,Y,Y] HT_ ?_; refine done_ (done_of HT_.out (by kernel_rfl)) ?_; (try go_wp2)
             (try simp only [← hl3_2])
             go_roundg k2
             case measure => have := HK1.out; have := HK2.out; omega
             case rel => exact ⟨(x3_2), (x4_2), (wrap64 (x6_2 + 1)), sq, H', ⟨by have := HK1.out; have := HK2.out; omega⟩, ⟨by (try simp only [hl3_1]); (try simp only [hl3_2]); (with_reducible repeat (first | apply Kd.R_alloc | apply Kd.R_drewN | apply Kd.R_drew)); exact HO_3.out⟩, ⟨by (try simp only [hl3_1]); (try simp only [hl3_2]); (with_reducible repeat (first | apply Kd.R_alloc | apply Kd.R_drewN | apply Kd.R_drew)); exact HO_4.out⟩, ⟨bq⟩⟩
            ·replace c18 := Bool.eq_false_iff.mpr c18
             subst c18; rw [if_neg (show ¬ (false = true) by decide)] at H
             by_cases c20 : 0 ≤ x5_1
             ·rw [if_pos c20] at H
              have c20b0 := decide_eq_true c20; clear c20
              by_cases c21 : x5_1 < (x4_2.length : Int)
              ·rw [if_pos c21] at H
               have c21b0 := decide_eq_true c21; clear c21
               by_cases c22 : 0 ≤ (rd x4_2 x5_1)
               ·rw [if_pos c22] at H
                have c22b0 := decide_eq_true c22; clear c22
                by_cases c23 : (rd x4_2 x5_1) < (l0.length : Int)
                ·rw [if_pos c23] at H
                 have c23b0 := decide_eq_true c23; clear c23; obtain ⟨t158, A240, H⟩ := Option.bind_eq_some_iff.mp H
                 (try dsimp only at H)
                 have A24 := ak A240; clear A240
                 by_cases c25 : t158 = true
                 ·subst c25
                  rw [if_pos rfl] at H; obtain ⟨y159, hy159⟩ : ∃ y_ : List Bool, y_ = (x3_2.set (x6_2 : Int).toNat true) := ⟨_, rfl⟩
                  replace H : (if x4_2.length < 17592186044416 then (spec_l8Hangs.l1 k2 l0 y159 (x4_2 ++ [x6_2]) x5_1 (wrap64 (x6_2 + 1))) else (none)) = some r := by first | (rw [hy159]; with_reducible exact H) | (have H2_ := (Option.bind_some _ _).symm.trans H; rw [hy159]; with_reducible exact H2_) | (have H2_ := (Option.bind_some _ _).symm.trans H; with_reducible exact H2_) | with_reducible exact H | (rw [hy159]; exact H) | exact H
                  have Ny159 := ak hy159; clear hy159
                  by_cases c27 : x4_2.length < 17592186044416
                  ·rw [if_pos c27] at H
                   have LMc27 := ak c27; clear c27; obtain ⟨y160, hy160⟩ : ∃ y_ : List Int, y_ = (x4_2 ++ [x6_2]) := ⟨_, rfl⟩
                   replace H : (spec_l8Hangs.l1 k2 l0 y159 y160 x5_1 (wrap64 (x6_2 + 1))) = some r := by first | (rw [hy160]; with_reducible exact H) | (have H2_ := (Option.bind_some _ _).symm.trans H; rw [hy160]; with_reducible exact H2_) | (have H2_ := (Option.bind_some _ _).symm.trans H; with_reducible exact H2_) | with_reducible exact H | (rw [hy160]; exact H) | exact H
                   have Ny160 := ak hy160; clear hy160; have H' := ak H; clear H; (try go_wp2); have n0_ := ak (Kd.R_drew HO_3.out); have n1_ := ak (Kd.R_drew HO_4.out); have n2_ := ak (below_drew1 HB.out); clear HO_3; clear HO_4; clear HB; have HO_3 := n0_; have HO_4 := n1_; have HB := n2_; clear n0_ n1_ n2_; have p154 : 0 ≤ (x6_2 : Int) := dq; have q154 : x6_2 < (x3_2.length : Int) := dq; obtain ⟨ad154, e154, hx154_0⟩ := Kd.at_bool (Kd.R_reads' HO_3.out).2.2 x6_2 p154 q154
                   (try rw [← Nbq17.out] at hx154_0)
                   obtain rfl : (⟨go5, 0, none⟩ : Addr) = ad154 := (by injection e154)
                   (first | simp only [add_plain] at hx154_0 | simp only [add_at] at hx154_0 | simp only [Addr.add, Nat.zero_add] at hx154_0 | skip)
                   replace p154 := eq_true p154; replace q154 := eq_true q154; have p155 : 0 ≤ (x6_2 : Int) := dq; have q155 : x6_2 < (l0.length : Int) := dq; obtain ⟨ad155, e155, hx155_0, hx155_1⟩ := at_T49 HR0.out x6_2 p155 q155; have hw155_1 := hx155_1; have hw155_0 := hx155_0; cases e155; replace hx155_0 := hb_ HB hx155_0; replace hx155_1 := hb_ HB hx155_1; replace p155 := eq_true p155; replace q155 := eq_true q155; obtain ⟨Ao29, co29, eo29⟩ := Kd.R_slice HO_4.out
                   (first | subst eo29 | (injection eo29 with f1_ f2_ f3_; have f4_ := f1_.symm; have f5_ := f3_.symm; clear f1_ f2_ f3_; subst f4_; subst f5_))
                   have p156 : 0 ≤ (x5_1 : Int) := dq; have q156 : x5_1 < (x4_2.length : Int) := dq; obtain ⟨ad156, e156, hx156_0⟩ := Kd.at_int (Kd.R_reads' HO_4.out).2.2 x5_1 p156 q156; cases e156; replace p156 := eq_true p156; replace q156 := eq_true q156; have p157 : 0 ≤ ((rd x4_2 x5_1) : Int) := dq; have q157 : (rd x4_2 x5_1) < (l0.length : Int) := dq; obtain ⟨ad157, e157, hx157_0, hx157_1⟩ := at_T49 HR0.out (rd x4_2 x5_1) p157 q157; have hw157_1 := hx157_1; have hw157_0 := hx157_0; obtain rfl : ad155 = ad157 := (by injection e157); replace hx157_0 := hb_ HB hx157_0; replace hx157_1 := hb_ HB hx157_1; replace p157 := eq_true p157; replace q157 := eq_true q157; refine start_ (n := 19) (S := fun w' => w'.cell? ⟨go5, (x6_2).toNat, none⟩ = some (.bool false) ∧ w'.cell? (ad155.add ((x6_2).toNat * 2)) = some (.int .i64 ((rd_T49 l0 x6_2).f0)) ∧ w'.cell? ⟨(ad155.add ((x6_2).toNat * 2)).block, (ad155.add ((x6_2).toNat * 2)).off + 1, none⟩ = some (.int .i64 ((rd_T49 l0 x6_2).f1)) ∧ w'.cell? (ad156.add (x5_1).toNat) = some (.int .i64 (rd x4_2 x5_1)) ∧ w'.cell? (ad155.add (((rd x4_2 x5_1)).toNat * 2)) = some (.int .i64 ((rd_T49 l0 (rd x4_2 x5_1)).f0)) ∧ w'.cell? ⟨(ad155.add (((rd x4_2 x5_1)).toNat * 2)).block, (ad155.add (((rd x4_2 x5_1)).toNat * 2)).off + 1, none⟩ = some (.int .i64 ((rd_T49 l0 (rd x4_2 x5_1)).f1))) (ds := []) #[Z,Z,Z,Z,Z,Z,Z,Z,Z,Z,Z,Z,Z,Z,Z,Z,Z,Z,Z] (by kernel_rfl) rfl rfl ⟨hx154_0, ((hb_ HB hw155_0).trans rfl), ((hb_ HB hw155_1).trans rfl), hx156_0, ((hb_ HB hw157_0).trans rfl), ((hb_ HB hw157_1).trans rfl)⟩ (fun hHeld => ?_); refine with_tabW spec_l8Hangs.tab10 spec_l8Hangs.bits10 (fun HT_ HW_ => ?_)
                   generalize wr.drew = w28 at HO_3 HO_4 HB hx154_0 hx155_0 hx155_1 hx156_0 hx157_0 hx157_1 hHeld ⊢
                   refine pq_ (i := 0) (N := some 25) #[Y,Z,Z,Z,Z,Z,Z,Z,Z,Z,Z,Z,Z,Z,Z,Z,Z,Z,Z] HT_ ?_; refine pq_ (i := 1) (N := some 26) #[Y,Y,Z,Z,Z,Z,Z,Z,Z,Z,Z,Z,Z,Z,Z,Z,Z,Z,Z] HT_ ?_; refine pq_ (i := 2) (N := some 27) #[Y,Y,Y,Z,Z,Z,Z,Z,Z,Z,Z,Z,Z,Z,Z,Z,Z,Z,Z] HT_ ?_; refine tk_ (i := 3) (N := some 28) #[Y,Y,Y,Y,Z,Z,Z,Z,Z,Z,Z,Z,Z,Z,Z,Z,Z,Z,Z] HT_ HW_ hHeld ?_; refine pq_ (i := 4) (N := some 29) #[Y,Y,Y,Y,Y,Z,Z,Z,Z,Z,Z,Z,Z,Z,Z,Z,Z,Z,Z] HT_ ?_; refine pq_ (i := 5) (N := some 30) #[Y,Y,Y,Y,Y,Y,Z,Z,Z,Z,Z,Z,Z,Z,Z,Z,Z,Z,Z] HT_ ?_; refine pq_ (i := 6) (N := some 31) #[Y,Y,Y,Y,Y,Y,Y,Z,Z,Z,Z,Z,Z,Z,Z,Z,Z,Z,Z] HT_ ?_; refine pq_ (i := 7) (N := some 32) #[Y,Y,Y,Y,Y,Y,Y,Y,Z,Z,Z,Z,Z,Z,Z,Z,Z,Z,Z] HT_ ?_; refine pq_ (i := 8) (N := some 33) #[Y,Y,Y,Y,Y,Y,Y,Y,Y,Z,Z,Z,Z,Z,Z,Z,Z,Z,Z] HT_ ?_; refine pq_ (i := 10) (N := some 35) #[Y,Y,Y,Y,Y,Y,Y,Y,Y,Z,Y,Z,Z,Z,Z,Z,Z,Z,Z] HT_ ?_; refine pq_ (i := 11) (N := some 36) #[Y,Y,Y,Y,Y,Y,Y,Y,Y,Z,Y,Y,Z,Z,Z,Z,Z,Z,Z] HT_ ?_; refine pq_ (i := 12) (N := some 37) #[Y,Y,Y,Y,Y,Y,Y,Y,Y,Z,Y,Y,Y,Z,Z,Z,Z,Z,Z] HT_ ?_; refine pq_ (i := 13) (N := some 38) #[Y,Y,Y,Y,Y,Y,Y,Y,Y,Z,Y,Y,Y,Y,Z,Z,Z,Z,Z] HT_ ?_; refine tk_ (i := 9) (N := some 34) #[Y,Y,Y,Y,Y,Y,Y,Y,Y,Y,Y,Y,Y,Y,Z,Z,Z,Z,Z] HT_ HW_ hHeld ?_; refine tk_ (i := 14) (N := some 39) #[Y,Y,Y,Y,Y,Y,Y,Y,Y,Y,Y,Y,Y,Y,Y,Z,Z,Z,Z] HT_ HW_ hHeld ?_; refine pq_ (i := 15) (N := some 40) #[Y,Y,Y,Y,Y,Y,Y,Y,Y,Y,Y,Y,Y,Y,Y,Y,Z,Z,Z] HT_ ?_; refine tk_ (i := 16) (N := some 41) #[Y,Y,Y,Y,Y,Y,Y,Y,Y,Y,Y,Y,Y,Y,Y,Y,Y,Z,Z] HT_ HW_ hHeld ?_; refine one_ (i := 17) (N := some 42) #[Y,Y,Y,Y,Y,Y,Y,Y,Y,Y,Y,Y,Y,Y,Y,Y,Y,Y,Z] rfl rfl (one_of HT_.out (by kernel_rfl)) (by decide) (fun K hK => ?_); refine goes_ Try.func109 (by kernel_rfl) rfl #[.agg #[.int .i64 ((rd_T49 l0 x6_2).f0), .int .i64 ((rd_T49 l0 x6_2).f1)], .agg #[.int .i64 ((rd_T49 l0 (rd x4_2 x5_1)).f0), .int .i64 ((rd_T49 l0 (rd x4_2 x5_1)).f1)]] (by rfl) rfl rfl aq ?_
                   with_reducible refine (spec_l8Near.calls ((rd_T49 l0 x6_2).f0) ((rd_T49 l0 x6_2).f1) ((rd_T49 l0 (rd x4_2 x5_1)).f0) ((rd_T49 l0 (rd x4_2 x5_1)).f1) true _ A24.out).mono ?_
                   rintro e w30 ⟨rfl, hb⟩
                   have HS0_ := (hb.cell (World.block_lt_of_cell? _ _ (hHeld.1))).trans (hHeld.1); have HS3_ := (hb.cell (World.block_lt_of_cell? _ _ (hHeld.2.2.2.1))).trans (hHeld.2.2.2.1); refine ⟨_, rfl, ?_⟩; have n0_ := ak (Kd.R_below (rq HO_3) hb); have n1_ := ak (Kd.R_below (rq HO_4) hb); have n2_ := ak (below_step bq hb); clear HO_3; clear HO_4; clear HB; have HO_3 := n0_; have HO_4 := n1_; have HB := n2_; clear n0_ n1_ n2_
                   (try clear hb)
                   (try clear hb2)
                   (try clear hk)
                   (try clear hi)
                   refine hK.out _ _ ⟨HS0_, ((hb_ HB hw155_0).trans rfl), ((hb_ HB hw155_1).trans rfl), HS3_, ((hb_ HB hw157_0).trans rfl), ((hb_ HB hw157_1).trans rfl)⟩ (fun hHeld => ?_); clear hK K; refine norm_ (a' := ?_) ?_ ?_; rotate_left
                   ·show Act.put _ (some 42) _ = _
                    simp only [Act.put, sA, sZ, sS, i64_w, i32_w]
                    rfl
                   refine pq_ (i := 18) (N := some 43) #[Y,Y,Y,Y,Y,Y,Y,Y,Y,Y,Y,Y,Y,Y,Y,Y,Y,Y,Y] HT_ ?_; refine done_ (done_of HT_.out (by kernel_rfl)) ?_; have p26 : 0 ≤ (x6_2 : Int) := dq; have q26 : (x6_2 : Int) < ((x3_2.length : Int) : Int) := dq; obtain ⟨hx26_0, hf26_0⟩ := Kd.R_celln false HO_3.out (x6_2 : Int) p26 q26; replace p26 := eq_true p26; replace q26 := eq_true q26; obtain ⟨hy31_, hz31_⟩ := Kd.R_celln false HO_3.out (x6_2 : Int) (dq) (dq); have HP31 := Kd.R_putg HO_3.out (x6_2 : Int) true
                   try go_wp2_with (first | ((with_reducible refine gate_store (t := 4) (p := 46) rfl ?_); refine store_event (t := 4) (p := 46) (v := ?vo_w32) (w1 := (w30.setCell ⟨go5, (x6_2 : Int).toNat, none⟩ (.bool true))) ?hg ?ho ?hn ?hr ?_; (case ho => rfl); (case hg => rfl); (case hn => rfl); (case hr => first | (go_simp; done) | (go_simp; rfl)); intro w32 hw; have hg : w30.grownBy w32 (some go5) := (by rw [hw]; exact HP31.2); have hp_ : Kd.R Kd.bool 4 w32 w.heap.size (fun _ => True) (.slice (some ⟨go5, 0, none⟩) x3_2.length co5) y159 := (by rw [hw, Ny159.out]; exact HP31.1); clear HP31; have n0_ := ak (hp_); have n1_ := ak (Kd.R_over' (v := (.slice (some ⟨go5, 0, none⟩) x3_2.length co5)) (rq HO_4) (Kd.R_typed HO_3.out) (by decide) hg); have n2_ := ak ((by rw [hw]; exact below_set (HB.out) GB5.out : Below w.heap.size w w32)); clear HO_3; clear HO_4; clear HB; have HO_3 := n0_; have HO_4 := n1_; have HB := n2_; clear n0_ n1_ n2_; clear hg hw hp_) | ((with_reducible refine gate_builtin (b := .append) (xs := #[.tmp 47, .tmp 49]) rfl ?_); at_builtin; refine Kd.R_append (Kd.int .i64) (w0 := w) w.heap.size rfl (.tmp 47) (.tmp 49) 24 3 (.int .i64 0) 8 rfl Try.underlying24 info3 rfl (by decide) (by omega) (.slice (some ad156) x4_2.length co29) x4_2 x6_2 [.int .i64 x6_2] (fun _ => True) (fun _ => False) rfl rfl ?aP (fun _ hk => hk.elim) ?aF ?aO ?aB ?aS ?aL ?_; (case aP => exact rfl); (case aB => exact bq); (case aF => exact (fun _ _ => trivial)); (case aO => exact (rq HO_4)); (case aS => exact (below_size bq)); (case aL => have := LMc27.out; omega); intro v161 w33 ho hb hg hat; rw [← Ny160.out] at ho; have n0_ := ak (Kd.R_over' (rq HO_3) (Kd.R_typed (rq HO_4)) (by decide) hg); have n1_ := ak (hb); have n2_ := ak (ho); clear HO_3; clear HB; clear HO_4; have HO_3 := n0_; have HB := n1_; have HO162 := n2_; clear n0_ n1_ n2_; clear ho hb hg hat))
                   (try simp only [← hl3_2])
                   go_roundg k2
                   case measure => have := HK1.out; have := HK2.out; omega
                   case rel => exact ⟨(y159), (y160), (wrap64 (x6_2 + 1)), sq, H', ⟨by have := HK1.out; have := HK2.out; omega⟩, ⟨by (try simp only [hl3_1]); (try simp only [hl3_2]); (with_reducible repeat (first | apply Kd.R_alloc | apply Kd.R_drewN | apply Kd.R_drew)); exact HO_3.out⟩, ⟨by (try simp only [hl3_1]); (try simp only [hl3_2]); (with_reducible repeat (first | apply Kd.R_alloc | apply Kd.R_drewN | apply Kd.R_drew)); exact HO162.out⟩, ⟨bq⟩⟩
                  ·rw [if_neg c27] at H
                   exact absurd H (by simp)
                 ·replace c25 := Bool.eq_false_iff.mpr c25
                  subst c25; rw [if_neg (show ¬ (false = true) by decide)] at H; have H' := ak H; clear H; (try go_wp2); have n0_ := ak (Kd.R_drew HO_3.out); have n1_ := ak (Kd.R_drew HO_4.out); have n2_ := ak (below_drew1 HB.out); clear HO_3; clear HO_4; clear HB; have HO_3 := n0_; have HO_4 := n1_; have HB := n2_; clear n0_ n1_ n2_; have p154 : 0 ≤ (x6_2 : Int) := dq; have q154 : x6_2 < (x3_2.length : Int) := dq; obtain ⟨ad154, e154, hx154_0⟩ := Kd.at_bool (Kd.R_reads' HO_3.out).2.2 x6_2 p154 q154
                  (try rw [← Nbq17.out] at hx154_0)
                  obtain rfl : (⟨go5, 0, none⟩ : Addr) = ad154 := (by injection e154)
                  (first | simp only [add_plain] at hx154_0 | simp only [add_at] at hx154_0 | simp only [Addr.add, Nat.zero_add] at hx154_0 | skip)
                  replace p154 := eq_true p154; replace q154 := eq_true q154; have p155 : 0 ≤ (x6_2 : Int) := dq; have q155 : x6_2 < (l0.length : Int) := dq; obtain ⟨ad155, e155, hx155_0, hx155_1⟩ := at_T49 HR0.out x6_2 p155 q155; have hw155_1 := hx155_1; have hw155_0 := hx155_0; cases e155; replace hx155_0 := hb_ HB hx155_0; replace hx155_1 := hb_ HB hx155_1; replace p155 := eq_true p155; replace q155 := eq_true q155; obtain ⟨Ao35, co35, eo35⟩ := Kd.R_slice HO_4.out
                  (first | subst eo35 | (injection eo35 with f1_ f2_ f3_; have f4_ := f1_.symm; have f5_ := f3_.symm; clear f1_ f2_ f3_; subst f4_; subst f5_))
                  have p156 : 0 ≤ (x5_1 : Int) := dq; have q156 : x5_1 < (x4_2.length : Int) := dq; obtain ⟨ad156, e156, hx156_0⟩ := Kd.at_int (Kd.R_reads' HO_4.out).2.2 x5_1 p156 q156; cases e156; replace p156 := eq_true p156; replace q156 := eq_true q156; have p157 : 0 ≤ ((rd x4_2 x5_1) : Int) := dq; have q157 : (rd x4_2 x5_1) < (l0.length : Int) := dq; obtain ⟨ad157, e157, hx157_0, hx157_1⟩ := at_T49 HR0.out (rd x4_2 x5_1) p157 q157; have hw157_1 := hx157_1; have hw157_0 := hx157_0; obtain rfl : ad155 = ad157 := (by injection e157); replace hx157_0 := hb_ HB hx157_0; replace hx157_1 := hb_ HB hx157_1; replace p157 := eq_true p157; replace q157 := eq_true q157; refine start_ (n := 19) (S := fun w' => w'.cell? ⟨go5, (x6_2).toNat, none⟩ = some (.bool false) ∧ w'.cell? (ad155.add ((x6_2).toNat * 2)) = some (.int .i64 ((rd_T49 l0 x6_2).f0)) ∧ w'.cell? ⟨(ad155.add ((x6_2).toNat * 2)).block, (ad155.add ((x6_2).toNat * 2)).off + 1, none⟩ = some (.int .i64 ((rd_T49 l0 x6_2).f1)) ∧ w'.cell? (ad156.add (x5_1).toNat) = some (.int .i64 (rd x4_2 x5_1)) ∧ w'.cell? (ad155.add (((rd x4_2 x5_1)).toNat * 2)) = some (.int .i64 ((rd_T49 l0 (rd x4_2 x5_1)).f0)) ∧ w'.cell? ⟨(ad155.add (((rd x4_2 x5_1)).toNat * 2)).block, (ad155.add (((rd x4_2 x5_1)).toNat * 2)).off + 1, none⟩ = some (.int .i64 ((rd_T49 l0 (rd x4_2 x5_1)).f1))) (ds := []) #[Z,Z,Z,Z,Z,Z,Z,Z,Z,Z,Z,Z,Z,Z,Z,Z,Z,Z,Z] (by kernel_rfl) rfl rfl ⟨hx154_0, ((hb_ HB hw155_0).trans rfl), ((hb_ HB hw155_1).trans rfl), hx156_0, ((hb_ HB hw157_0).trans rfl), ((hb_ HB hw157_1).trans rfl)⟩ (fun hHeld => ?_); refine with_tabW spec_l8Hangs.tab10 spec_l8Hangs.bits10 (fun HT_ HW_ => ?_)
                  generalize wr.drew = w34 at HO_3 HO_4 HB hx154_0 hx155_0 hx155_1 hx156_0 hx157_0 hx157_1 hHeld ⊢
                  refine pq_ (i := 0) (N := some 25) #[Y,Z,Z,Z,Z,Z,Z,Z,Z,Z,Z,Z,Z,Z,Z,Z,Z,Z,Z] HT_ ?_; refine pq_ (i := 1) (N := some 26) #[Y,Y,Z,Z,Z,Z,Z,Z,Z,Z,Z,Z,Z,Z,Z,Z,Z,Z,Z] HT_ ?_; refine pq_ (i := 2) (N := some 27) #[Y,Y,Y,Z,Z,Z,Z,Z,Z,Z,Z,Z,Z,Z,Z,Z,Z,Z,Z] HT_ ?_; refine tk_ (i := 3) (N := some 28) #[Y,Y,Y,Y,Z,Z,Z,Z,Z,Z,Z,Z,Z,Z,Z,Z,Z,Z,Z] HT_ HW_ hHeld ?_; refine pq_ (i := 4) (N := some 29) #[Y,Y,Y,Y,Y,Z,Z,Z,Z,Z,Z,Z,Z,Z,Z,Z,Z,Z,Z] HT_ ?_; refine pq_ (i := 5) (N := some 30) #[Y,Y,Y,Y,Y,Y,Z,Z,Z,Z,Z,Z,Z,Z,Z,Z,Z,Z,Z] HT_ ?_; refine pq_ (i := 6) (N := some 31) #[Y,Y,Y,Y,Y,Y,Y,Z,Z,Z,Z,Z,Z,Z,Z,Z,Z,Z,Z] HT_ ?_; refine pq_ (i := 7) (N := some 32) #[Y,Y,Y,Y,Y,Y,Y,Y,Z,Z,Z,Z,Z,Z,Z,Z,Z,Z,Z] HT_ ?_; refine pq_ (i := 8) (N := some 33) #[Y,Y,Y,Y,Y,Y,Y,Y,Y,Z,Z,Z,Z,Z,Z,Z,Z,Z,Z] HT_ ?_; refine pq_ (i := 10) (N := some 35) #[Y,Y,Y,Y,Y,Y,Y,Y,Y,Z,Y,Z,Z,Z,Z,Z,Z,Z,Z] HT_ ?_; refine pq_ (i := 11) (N := some 36) #[Y,Y,Y,Y,Y,Y,Y,Y,Y,Z,Y,Y,Z,Z,Z,Z,Z,Z,Z] HT_ ?_; refine pq_ (i := 12) (N := some 37) #[Y,Y,Y,Y,Y,Y,Y,Y,Y,Z,Y,Y,Y,Z,Z,Z,Z,Z,Z] HT_ ?_; refine pq_ (i := 13) (N := some 38) #[Y,Y,Y,Y,Y,Y,Y,Y,Y,Z,Y,Y,Y,Y,Z,Z,Z,Z,Z] HT_ ?_; refine tk_ (i := 9) (N := some 34) #[Y,Y,Y,Y,Y,Y,Y,Y,Y,Y,Y,Y,Y,Y,Z,Z,Z,Z,Z] HT_ HW_ hHeld ?_; refine tk_ (i := 14) (N := some 39) #[Y,Y,Y,Y,Y,Y,Y,Y,Y,Y,Y,Y,Y,Y,Y,Z,Z,Z,Z] HT_ HW_ hHeld ?_; refine pq_ (i := 15) (N := some 40) #[Y,Y,Y,Y,Y,Y,Y,Y,Y,Y,Y,Y,Y,Y,Y,Y,Z,Z,Z] HT_ ?_; refine tk_ (i := 16) (N := some 41) #[Y,Y,Y,Y,Y,Y,Y,Y,Y,Y,Y,Y,Y,Y,Y,Y,Y,Z,Z] HT_ HW_ hHeld ?_; refine one_ (i := 17) (N := some 42) #[Y,Y,Y,Y,Y,Y,Y,Y,Y,Y,Y,Y,Y,Y,Y,Y,Y,Y,Z] rfl rfl (one_of HT_.out (by kernel_rfl)) (by decide) (fun K hK => ?_); refine goes_ Try.func109 (by kernel_rfl) rfl #[.agg #[.int .i64 ((rd_T49 l0 x6_2).f0), .int .i64 ((rd_T49 l0 x6_2).f1)], .agg #[.int .i64 ((rd_T49 l0 (rd x4_2 x5_1)).f0), .int .i64 ((rd_T49 l0 (rd x4_2 x5_1)).f1)]] (by rfl) rfl rfl aq ?_
                  with_reducible refine (spec_l8Near.calls ((rd_T49 l0 x6_2).f0) ((rd_T49 l0 x6_2).f1) ((rd_T49 l0 (rd x4_2 x5_1)).f0) ((rd_T49 l0 (rd x4_2 x5_1)).f1) false _ A24.out).mono ?_
                  rintro e w36 ⟨rfl, hb⟩
                  have HS0_ := (hb.cell (World.block_lt_of_cell? _ _ (hHeld.1))).trans (hHeld.1); have HS3_ := (hb.cell (World.block_lt_of_cell? _ _ (hHeld.2.2.2.1))).trans (hHeld.2.2.2.1); refine ⟨_, rfl, ?_⟩; have n0_ := ak (Kd.R_below (rq HO_3) hb); have n1_ := ak (Kd.R_below (rq HO_4) hb); have n2_ := ak (below_step bq hb); clear HO_3; clear HO_4; clear HB; have HO_3 := n0_; have HO_4 := n1_; have HB := n2_; clear n0_ n1_ n2_
                  (try clear hb)
                  (try clear hb2)
                  (try clear hk)
                  (try clear hi)
                  refine hK.out _ _ ⟨HS0_, ((hb_ HB hw155_0).trans rfl), ((hb_ HB hw155_1).trans rfl), HS3_, ((hb_ HB hw157_0).trans rfl), ((hb_ HB hw157_1).trans rfl)⟩ (fun hHeld => ?_); clear hK K; refine norm_ (a' := ?_) ?_ ?_; rotate_left
                  ·show Act.put _ (some 42) _ = _
                   simp only [Act.put, sA, sZ, sS, i64_w, i32_w]
                   rfl
                  refine pq_ (i := 18) (N := some 43) #[Y,Y,Y,Y,Y,Y,Y,Y,Y,Y,Y,Y,Y,Y,Y,Y,Y,Y,Y] HT_ ?_; refine done_ (done_of HT_.out (by kernel_rfl)) ?_; (try go_wp2)
                  (try simp only [← hl3_2])
                  go_roundg k2
                  case measure => have := HK1.out; have := HK2.out; omega
                  case rel => exact ⟨(x3_2), (x4_2), (wrap64 (x6_2 + 1)), sq, H', ⟨by have := HK1.out; have := HK2.out; omega⟩, ⟨by (try simp only [hl3_1]); (try simp only [hl3_2]); (with_reducible repeat (first | apply Kd.R_alloc | apply Kd.R_drewN | apply Kd.R_drew)); exact HO_3.out⟩, ⟨by (try simp only [hl3_1]); (try simp only [hl3_2]); (with_reducible repeat (first | apply Kd.R_alloc | apply Kd.R_drewN | apply Kd.R_drew)); exact HO_4.out⟩, ⟨bq⟩⟩
                ·rw [if_neg c23] at H
                 exact absurd H (by simp)
               ·rw [if_neg c22] at H
                exact absurd H (by simp)
              ·rw [if_neg c21] at H
               exact absurd H (by simp)
             ·rw [if_neg c20] at H
              exact absurd H (by simp)
           ·rw [if_neg c16] at H
            exact absurd H (by simp)
          ·rw [if_neg c15] at H
           exact absurd H (by simp)
         ·rw [if_neg c14] at H
          have c14b0 := decide_eq_false c14; clear c14; have H' := ak H; clear H; go_wp2
          (try simp only [← hl3_1, ← hl3_2])
          go_roundg k2
          case measure => have := HK1.out; have := HK2.out; omega
          case rel => exact ⟨(x3_2), (x4_2), (wrap64 (x5_1 + 1)), sq, H', ⟨by have := HK1.out; have := HK2.out; omega⟩, ⟨by (try simp only [hl3_1]); (try simp only [hl3_2]); (with_reducible repeat (first | apply Kd.R_alloc | apply Kd.R_drewN | apply Kd.R_drew)); exact HO_3.out⟩, ⟨by (try simp only [hl3_1]); (try simp only [hl3_2]); (with_reducible repeat (first | apply Kd.R_alloc | apply Kd.R_drewN | apply Kd.R_drew)); exact HO_4.out⟩, ⟨bq⟩⟩
      ·rw [if_neg c12] at H
       have c12b0 := decide_eq_false c12; clear c12; obtain rfl := Option.some.inj H; obtain ⟨Ao37, co37, eo37⟩ := Kd.R_slice HO_4.out; subst eo37; go_wp2; go_ret; exact ⟨eq_, bq⟩
   ·rw [if_neg c4] at H
    exact absurd H (by simp)
  ·rw [if_neg c3] at H
   exact absurd H (by simp)
 ·rw [if_neg c2] at H
  exact absurd H (by simp)

end Go.Proofs.Ytckhmeadflafaaa.XCb
