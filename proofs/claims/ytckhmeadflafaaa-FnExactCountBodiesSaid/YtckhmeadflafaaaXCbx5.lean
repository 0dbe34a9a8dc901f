/- Functions of the program as plain Lean functions, each with the proof that the machine's call does what it says: written by a program of this session out of the translation. -/
import Derived.Test.YtckhmeadflafaaaXCbx0
import Derived.Test.YtckhmeadflafaaaXCbx1
import Derived.Test.YtckhmeadflafaaaXCbx2
import Derived.Test.YtckhmeadflafaaaXCbx3
import Derived.Test.YtckhmeadflafaaaXCbx4
namespace Go.Proofs.Ytckhmeadflafaaa.XCb
open Go.RowKit Go.Proofs.YtckhmeadflafaaaW.PrintWords Go.Proofs.YtckhmeadflafaaaW.PrintLast Go.Proofs.YtckhmeadflafaaaW.PrintMore
attribute [local go_sem] max2_int min2_int max_two min_two max_three min_three max_four min_four   -- for this text's walks alone
set_option linter.unusedVariables false
set_option linter.unusedSimpArgs false

attribute [local go_sem high] eqA49
/-! ### impl_IsBody: function 34 -/
def impl_IsBody.l0 : Nat → List (S49) → List (S49) → Int → Int → Option (Bool)
 | 0, _, _, _, _ => none
 | k + 1, x0, x9, x10, x11 => if x11 < x10 then (if 0 ≤ x11 then (if x11 < (x9.length : Int) then ((impl_within.f ((rd_T49 x9 x11).f0) 0 12).bind fun t137 => (if t137 = true then ((impl_within.f ((rd_T49 x9 x11).f1) 0 12).bind fun t138 => (if t138 = true then (if x11 > 0 then (if 0 ≤ (wrap64 (x11 - 1)) then (if (wrap64 (x11 - 1)) < (x0.length : Int) then ((impl_compareCells.f k ((rd_T49 x0 (wrap64 (x11 - 1))).f0) ((rd_T49 x0 (wrap64 (x11 - 1))).f1) ((rd_T49 x9 x11).f0) ((rd_T49 x9 x11).f1)).bind fun t140 => (if t140 ≥ 0 then (some false) else (impl_IsBody.l0 k x0 x9 x10 (wrap64 (x11 + 1))))) else (none)) else (none)) else (impl_IsBody.l0 k x0 x9 x10 (wrap64 (x11 + 1)))) else (some false))) else (some false))) else (none)) else (none)) else ((impl_leastOf.f k x0).bind fun bt132 => (if (bt132.1 == 0 && (bt132.2 == 0)) = true then ((impl_hangs.f k x0).bind fun t134 => (some t134)) else (some false)))
def impl_IsBody.f (k : Nat) (l0 : List (S49)) : Option (Bool) := (impl_within.f (l0.length : Int) 1 12).bind fun t131 => (if t131 = true then (impl_IsBody.l0 k l0 l0 (l0.length : Int) 0) else (some false))
theorem impl_IsBody.mono_l : ∀ k, (∀ y0 y1 y2 y3, LeO (impl_IsBody.l0 k y0 y1 y2 y3) (impl_IsBody.l0 (k + 1) y0 y1 y2 y3))
 | 0 => fun _ _ _ _ r h => by simp [impl_IsBody.l0] at h
 | k + 1 => by
  have ih0 := impl_IsBody.mono_l k
  ·intro y0 y1 y2 y3
   unfold impl_IsBody.l0
   repeat' first
   | (with_reducible exact ih0 _ _ _ _)
   | (with_reducible exact impl_compareCells.mono _ _ _ _ _)
   | (with_reducible exact impl_hangs.mono _ _)
   | (with_reducible exact impl_leastOf.mono _ _)
   | (with_reducible exact LeO.refl _)
   | (with_reducible exact LeO.none _)
   | (with_reducible refine LeO.ite ?_ ?_)
   | (with_reducible refine LeO.bind ?_ (fun _ => ?_))
theorem impl_IsBody.mono : ∀ a0 k, LeO (impl_IsBody.f k a0) (impl_IsBody.f (k + 1) a0) := by
 intro a0 k; have ih0 := impl_IsBody.mono_l k
 unfold impl_IsBody.f
 repeat' first
   | (with_reducible exact ih0 _ _ _ _)
   | (with_reducible exact impl_compareCells.mono _ _ _ _ _)
   | (with_reducible exact impl_hangs.mono _ _)
   | (with_reducible exact impl_leastOf.mono _ _)
   | (with_reducible exact LeO.refl _)
   | (with_reducible exact LeO.none _)
   | (with_reducible refine LeO.ite ?_ ?_)
   | (with_reducible refine LeO.bind ?_ (fun _ => ?_))
def impl_IsBody.T6 : Bool × List (List Nat × List Nat) := (true, [([], []), ([0], [0]), ([1], [1]), ([2], [2]), ([3, 2], [3]), ([4], [4]), ([5, 4], [4, 5]), ([6, 4, 4], [4, 6]), ([7, 4], [4, 7]), ([4, 8], [4, 8]), ([9, 7], [9]), ([10], [10]), ([11, 10], [10, 11]), ([12, 10, 10], [10, 12]), ([13], [13]), ([13], [13]), ([15, 13], [13, 15]), ([14, 16, 13], [13, 14, 16]), ([17, 13], [13, 17]), ([13], [13]), ([18, 19, 13, 13], [13, 18, 19]), ([20, 13], [13, 20]), ([13, 21, 10], [10, 13, 21]), ([10, 22], [10, 22])])
def impl_IsBody.B6 : List Nat := [0, 1, 3, 7, 15, 31, 63, 127, 255, 511, 1023, 2047, 4095, 8191, 16383, 16383, 49151, 131071, 262143, 16383, 1048575, 2097151, 4194303, 8388607]
theorem impl_IsBody.tab6 : rtab .any (opsOf Try.f34 6) = impl_IsBody.T6 := by kernel_rfl
theorem impl_IsBody.bits6 : waitsOk impl_IsBody.T6.2 impl_IsBody.B6 = true := by kernel_rfl
set_option maxHeartbeats 8000000 in
set_option maxRecDepth 100000 in
theorem impl_IsBody.calls (k : Nat) (A0 : Option Addr) (c0 : Nat) (l0 : List (S49)) (r : Bool) (w : World) (hr0 : Kd.C k49 w A0 l0.length l0) (hc0 : l0.length ≤ c0) (h : impl_IsBody.f k l0 = some r) :
  Calls Try.prog 34 #[.slice A0 l0.length c0] w fun e w' => e = .returned (.bool r) ∧ Below w.heap.size w w' := by
 have hu49 := Try.underlying49; have HR0 := ak hr0; have HC0 := ak hc0; clear hr0 hc0; have HB := ak (Below.refl w.heap.size w); have H : ((impl_within.f (l0.length : Int) 1 12).bind fun t131 => (if t131 = true then (impl_IsBody.l0 k l0 l0 (l0.length : Int) 0) else (some false))) = some r := h; clear h; obtain ⟨t131, A20, H⟩ := Option.bind_eq_some_iff.mp H
 (try dsimp only at H)
 have A2 := ak A20; clear A20
 by_cases c3 : t131 = true
 ·subst c3
  rw [if_pos rfl] at H; have H' := ak H; clear H
  go_enter Try.func34, Try.ntmps34
  go_wp2_with (first | ((with_reducible refine gate_callee (f := 69) rfl ?_); refine goesL_ (some 7) rfl rfl Try.func69 (by kernel_rfl) rfl #[.int .i64 (l0.length : Int), .int .i64 1, .int .i64 12] rfl aq ?_; (with_reducible refine (impl_within.calls (l0.length : Int) 1 12 true _ A2.out).mono ?_); rintro e w' ⟨rfl, ⟨nd, rfl⟩⟩; refine ⟨_, rfl, ?_⟩))
  (try simp only [Act.put, sA, sZ, sS])
  go_loopg [11] k (fun kq v11 w' => ∃ (x11_1 : Int), v11 = .int .i64 x11_1 ∧ Aside0 (impl_IsBody.l0 kq l0 l0 (l0.length : Int) x11_1 = some r) ∧ Aside0 (kq ≤ k) ∧ Aside0 (Below w.heap.size w w'))
  case atStart => exact ⟨(0), sq, H', ⟨Nat.le_refl _⟩, ⟨bq⟩⟩
  case round =>
   clear H'; (try clear p2); (try clear c3); obtain ⟨x11_1, rfl, HA, HK1, HB⟩ := hrel
   cases gk with
   | zero => exact absurd HA.out (by simp [impl_IsBody.l0])
   | succ k1 =>
    have H := HA.out; clear HA; simp only [impl_IsBody.l0] at H
    by_cases c4 : x11_1 < (l0.length : Int)
    ·rw [if_pos c4] at H
     have c4b0 := decide_eq_true c4; clear c4
     by_cases c5 : 0 ≤ x11_1
     ·rw [if_pos c5] at H
      have c5b0 := decide_eq_true c5; clear c5
      by_cases c6 : x11_1 < (l0.length : Int)
      ·rw [if_pos c6] at H
       have c6b0 := decide_eq_true c6; clear c6; obtain ⟨t137, A70, H⟩ := Option.bind_eq_some_iff.mp H
       (try dsimp only at H)
       have A7 := ak A70; clear A70
       by_cases c8 : t137 = true
       ·subst c8
        rw [if_pos rfl] at H; obtain ⟨t138, A90, H⟩ := Option.bind_eq_some_iff.mp H
        (try dsimp only at H)
        have A9 := ak A90; clear A90
        by_cases c10 : t138 = true
        ·subst c10
         rw [if_pos rfl] at H
         by_cases c11 : x11_1 > 0
         ·rw [if_pos c11] at H
          have c11b0 : decide (0 < x11_1) = true := decide_eq_true c11; clear c11; obtain ⟨ji12, hji12⟩ : ∃ j_ : Int, (wrap64 (x11_1 - 1)) = j_ := ⟨_, rfl⟩
          (first | rw [hji12] at H | simp only [hji12] at H)
          (try rw [hji12] at A7)
          (try rw [hji12] at A9)
          have hji12w : (IntKind.i64.wrap (x11_1 - 1)) = ji12 := (i64_w _).trans hji12
          by_cases c13 : 0 ≤ (ji12)
          ·rw [if_pos c13] at H
           have c13b0 := decide_eq_true c13; clear c13
           by_cases c14 : (ji12) < (l0.length : Int)
           ·rw [if_pos c14] at H
            have c14b0 := decide_eq_true c14; clear c14; obtain ⟨t140, A150, H⟩ := Option.bind_eq_some_iff.mp H
            (try dsimp only at H)
            have A15 := ak A150; clear A150
            by_cases c16 : t140 ≥ 0
            ·rw [if_pos c16] at H
             have c16b0 : decide (0 ≤ t140) = true := decide_eq_true c16; clear c16; obtain rfl := Option.some.inj H; have p135 : 0 ≤ (x11_1 : Int) := dq; have q135 : x11_1 < (l0.length : Int) := dq; obtain ⟨ad135, e135, hx135_0, hx135_1⟩ := at_T49 HR0.out x11_1 p135 q135; cases e135; replace hx135_0 := hb_ HB hx135_0; replace hx135_1 := hb_ HB hx135_1; replace p135 := eq_true p135; replace q135 := eq_true q135
             try go_wp2_with (first | ((with_reducible refine gate_dst (N := 4) rfl ?_); refine box_event ?hg (N := 4) ?hd (cs := #[.int .i64 0, .int .i64 0]) (t := 49) ?hr ?_; (case hd => rfl); (case hg => rfl); (case hr => first | (go_simp; done) | (go_simp; rfl)); intro gb136 hg w17 hbox hb; have n0_ := ak (below_step bq hb); have n1_ := ak (hbox); have n2_ := ak ((by rw [hg]; exact (below_size bq) : w.heap.size ≤ gb136)); have n3_ := ak ((by rw [hg]; exact (below_size bq) : w.heap.size ≤ gb136)); clear HB; have HB := n0_; have BK136 := n1_; have GW136 := n2_; have GE136 := n3_; clear n0_ n1_ n2_ n3_; clear hb hbox hg; have hcz18_0 : w17.cell? ⟨gb136, 0, none⟩ = some (.int .i64 0) := (blk_cell BK136.out 0).trans rfl; have hcz18_1 : w17.cell? ⟨gb136, 1, none⟩ = some (.int .i64 0) := (blk_cell BK136.out 1).trans rfl; have hfz18_0 := blk_frozen BK136.out 0; have hfz18_1 := blk_frozen BK136.out 1))
             have n0_ : Aside0 (((w17.setCell ⟨gb136, 0, none⟩ (.int .i64 ((rd_T49 l0 x11_1).f0))).setCell ⟨gb136, 1, none⟩ (.int .i64 ((rd_T49 l0 x11_1).f1))).heap[gb136]? = some (.cells #[.int .i64 ((rd_T49 l0 x11_1).f0), .int .i64 ((rd_T49 l0 x11_1).f1)] 49 (0, 0))) := ⟨by (with_reducible repeat (first | refine blk_drewN ?_ _ | refine blk_drew ?_ | refine blk_alloc ?_ _)); refine blk_put (cs := #[.int .i64 ((rd_T49 l0 x11_1).f0), .int .i64 0]) ?_ 1 _ rfl; (with_reducible repeat (first | refine blk_drewN ?_ _ | refine blk_drew ?_ | refine blk_alloc ?_ _)); refine blk_put (cs := #[.int .i64 0, .int .i64 0]) ?_ 0 _ rfl; (with_reducible repeat (first | refine blk_drewN ?_ _ | refine blk_drew ?_ | refine blk_alloc ?_ _)); exact BK136.out⟩; have n1_ : Aside0 (Below w.heap.size w ((w17.setCell ⟨gb136, 0, none⟩ (.int .i64 ((rd_T49 l0 x11_1).f0))).setCell ⟨gb136, 1, none⟩ (.int .i64 ((rd_T49 l0 x11_1).f1)))) := ⟨bs⟩
             (try clear BK136)
             (try clear HB)
             generalize ((w17.setCell ⟨gb136, 0, none⟩ (.int .i64 ((rd_T49 l0 x11_1).f0))).setCell ⟨gb136, 1, none⟩ (.int .i64 ((rd_T49 l0 x11_1).f1))) = w19 at n0_ n1_ ⊢
             have BK136 := n0_; have HB := n1_; clear n0_ n1_; have n0_ := ak (blk_drew BK136.out); have n1_ := ak (below_drew1 HB.out); clear BK136; clear HB; have BK136 := n0_; have HB := n1_; clear n0_ n1_; have p139 : 0 ≤ ((ji12) : Int) := dq; have q139 : (ji12) < (l0.length : Int) := dq; obtain ⟨ad139, e139, hx139_0, hx139_1⟩ := at_T49 HR0.out (ji12) p139 q139; have hw139_1 := hx139_1; have hw139_0 := hx139_0; obtain rfl : ad135 = ad139 := (by injection e139); replace hx139_0 := hb_ HB hx139_0; replace hx139_1 := hb_ HB hx139_1; replace p139 := eq_true p139; replace q139 := eq_true q139; refine start_ (n := 24) (S := fun w' => w'.cell? ⟨gb136, 0, none⟩ = some (.int .i64 ((rd_T49 l0 x11_1).f0)) ∧ w'.cell? ⟨gb136, 1, none⟩ = some (.int .i64 ((rd_T49 l0 x11_1).f1)) ∧ w'.cell? (ad135.add (((ji12)).toNat * 2)) = some (.int .i64 ((rd_T49 l0 (ji12)).f0)) ∧ w'.cell? ⟨(ad135.add (((ji12)).toNat * 2)).block, (ad135.add (((ji12)).toNat * 2)).off + 1, none⟩ = some (.int .i64 ((rd_T49 l0 (ji12)).f1))) (ds := []) #[Z,Z,Z,Z,Z,Z,Z,Z,Z,Z,Z,Z,Z,Z,Z,Z,Z,Z,Z,Z,Z,Z,Z,Z] (by kernel_rfl) rfl rfl ⟨(blk_cell BK136.out 0).trans rfl, (blk_cell BK136.out 1).trans rfl, ((hb_ HB hw139_0).trans rfl), ((hb_ HB hw139_1).trans rfl)⟩ (fun hHeld => ?_); refine with_tabW impl_IsBody.tab6 impl_IsBody.bits6 (fun HT_ HW_ => ?_)
             generalize w19.drew = w20 at BK136 HB hx139_0 hx139_1 hHeld ⊢
             refine pq_ (i := 0) (N := some 16) #[Y,Z,Z,Z,Z,Z,Z,Z,Z,Z,Z,Z,Z,Z,Z,Z,Z,Z,Z,Z,Z,Z,Z,Z] HT_ ?_; refine tk_ (i := 1) (N := some 17) #[Y,Y,Z,Z,Z,Z,Z,Z,Z,Z,Z,Z,Z,Z,Z,Z,Z,Z,Z,Z,Z,Z,Z,Z] HT_ HW_ hHeld ?_; refine one_ (i := 2) (N := some 18) #[Y,Y,Y,Z,Z,Z,Z,Z,Z,Z,Z,Z,Z,Z,Z,Z,Z,Z,Z,Z,Z,Z,Z,Z] rfl rfl (one_of HT_.out (by kernel_rfl)) (by decide) (fun K hK => ?_); refine goes_ Try.func69 (by kernel_rfl) rfl #[.int .i64 ((rd_T49 l0 x11_1).f0), .int .i64 0, .int .i64 12] (by rfl) rfl rfl aq ?_
             with_reducible refine (impl_within.calls ((rd_T49 l0 x11_1).f0) 0 12 true _ A7.out).mono ?_
             rintro e w' ⟨rfl, ⟨nd, rfl⟩⟩
             refine ⟨_, rfl, ?_⟩; refine hK.out _ _ ⟨(blk_cell BK136.out 0).trans rfl, (blk_cell BK136.out 1).trans rfl, ((hb_ HB hw139_0).trans rfl), ((hb_ HB hw139_1).trans rfl)⟩ (fun hHeld => ?_); clear hK K; refine norm_ (a' := ?_) ?_ ?_; rotate_left
             ·show Act.put _ (some 18) _ = _
              simp only [Act.put, sA, sZ, sS, i64_w, i32_w]
              rfl
             refine pq_ (i := 3) (N := some 19) #[Y,Y,Y,Y,Z,Z,Z,Z,Z,Z,Z,Z,Z,Z,Z,Z,Z,Z,Z,Z,Z,Z,Z,Z] HT_ ?_; refine pq_ (i := 4) (N := some 20) #[Y,Y,Y,Y,Y,Z,Z,Z,Z,Z,Z,Z,Z,Z,Z,Z,Z,Z,Z,Z,Z,Z,Z,Z] HT_ ?_; refine pq_ (i := 5) (N := some 21) #[Y,Y,Y,Y,Y,Y,Z,Z,Z,Z,Z,Z,Z,Z,Z,Z,Z,Z,Z,Z,Z,Z,Z,Z] HT_ ?_; refine tk_ (i := 6) (N := some 22) #[Y,Y,Y,Y,Y,Y,Y,Z,Z,Z,Z,Z,Z,Z,Z,Z,Z,Z,Z,Z,Z,Z,Z,Z] HT_ HW_ hHeld ?_; refine one_ (i := 7) (N := some 23) #[Y,Y,Y,Y,Y,Y,Y,Y,Z,Z,Z,Z,Z,Z,Z,Z,Z,Z,Z,Z,Z,Z,Z,Z] rfl rfl (one_of HT_.out (by kernel_rfl)) (by decide) (fun K hK => ?_); refine goes_ Try.func69 (by kernel_rfl) rfl #[.int .i64 ((rd_T49 l0 x11_1).f1), .int .i64 0, .int .i64 12] (by rfl) rfl rfl aq ?_
             with_reducible refine (impl_within.calls ((rd_T49 l0 x11_1).f1) 0 12 true _ A9.out).mono ?_
             rintro e w' ⟨rfl, ⟨nd, rfl⟩⟩
             refine ⟨_, rfl, ?_⟩; refine hK.out _ _ ⟨(blk_cell BK136.out 0).trans rfl, (blk_cell BK136.out 1).trans rfl, ((hb_ HB hw139_0).trans rfl), ((hb_ HB hw139_1).trans rfl)⟩ (fun hHeld => ?_); clear hK K; refine norm_ (a' := ?_) ?_ ?_; rotate_left
             ·show Act.put _ (some 23) _ = _
              simp only [Act.put, sA, sZ, sS, i64_w, i32_w]
              rfl
             refine pq_ (i := 8) (N := some 24) #[Y,Y,Y,Y,Y,Y,Y,Y,Y,Z,Z,Z,Z,Z,Z,Z,Z,Z,Z,Z,Z,Z,Z,Z] HT_ ?_; refine pq_ (i := 9) (N := some 25) #[Y,Y,Y,Y,Y,Y,Y,Y,Y,Y,Z,Z,Z,Z,Z,Z,Z,Z,Z,Z,Z,Z,Z,Z] HT_ ?_; refine pq_ (i := 10) (N := some 26) #[Y,Y,Y,Y,Y,Y,Y,Y,Y,Y,Y,Z,Z,Z,Z,Z,Z,Z,Z,Z,Z,Z,Z,Z] HT_ ?_; refine pq_ (i := 11) (N := some 27) #[Y,Y,Y,Y,Y,Y,Y,Y,Y,Y,Y,Y,Z,Z,Z,Z,Z,Z,Z,Z,Z,Z,Z,Z] HT_ ?_; refine pq_ (i := 12) (N := some 28) #[Y,Y,Y,Y,Y,Y,Y,Y,Y,Y,Y,Y,Y,Z,Z,Z,Z,Z,Z,Z,Z,Z,Z,Z] HT_ ?_; refine pq_ (i := 13) (N := some 29) #[Y,Y,Y,Y,Y,Y,Y,Y,Y,Y,Y,Y,Y,Y,Z,Z,Z,Z,Z,Z,Z,Z,Z,Z] HT_ ?_; refine pq_ (i := 14) (N := some 30) #[Y,Y,Y,Y,Y,Y,Y,Y,Y,Y,Y,Y,Y,Y,Y,Z,Z,Z,Z,Z,Z,Z,Z,Z] HT_ ?_; refine pq_ (i := 15) (N := some 31) #[Y,Y,Y,Y,Y,Y,Y,Y,Y,Y,Y,Y,Y,Y,Y,Y,Z,Z,Z,Z,Z,Z,Z,Z] HT_ ?_; refine pq_ (i := 16) (N := some 32) #[Y,Y,Y,Y,Y,Y,Y,Y,Y,Y,Y,Y,Y,Y,Y,Y,Y,Z,Z,Z,Z,Z,Z,Z] HT_ ?_; refine pq_ (i := 17) (N := some 33) #[Y,Y,Y,Y,Y,Y,Y,Y,Y,Y,Y,Y,Y,Y,Y,Y,Y,Y,Z,Z,Z,Z,Z,Z] HT_ ?_; refine tk_ (i := 18) (N := some 34) #[Y,Y,Y,Y,Y,Y,Y,Y,Y,Y,Y,Y,Y,Y,Y,Y,Y,Y,Y,Z,Z,Z,Z,Z] HT_ HW_ hHeld ?_; refine tk_ (i := 19) (N := some 35) #[Y,Y,Y,Y,Y,Y,Y,Y,Y,Y,Y,Y,Y,Y,Y,Y,Y,Y,Y,Y,Z,Z,Z,Z] HT_ HW_ hHeld ?_; refine one_ (i := 20) (N := some 36) #[Y,Y,Y,Y,Y,Y,Y,Y,Y,Y,Y,Y,Y,Y,Y,Y,Y,Y,Y,Y,Y,Z,Z,Z] rfl rfl (one_of HT_.out (by kernel_rfl)) (by decide) (fun K hK => ?_); refine goes_ Try.func84 (by kernel_rfl) rfl #[.agg #[.int .i64 ((rd_T49 l0 (ji12)).f0), .int .i64 ((rd_T49 l0 (ji12)).f1)], .agg #[.int .i64 ((rd_T49 l0 x11_1).f0), .int .i64 ((rd_T49 l0 x11_1).f1)]] (by rfl) rfl rfl (by (try simp only [List.map_toArray, List.map_cons, List.map_nil]); first | done | (simp only [hji12]; rfl) | rfl | (simp only [List.length_drop, List.length_take]; rfl)) ?_
             with_reducible refine (impl_compareCells.calls k1 ((rd_T49 l0 (ji12)).f0) ((rd_T49 l0 (ji12)).f1) ((rd_T49 l0 x11_1).f0) ((rd_T49 l0 x11_1).f1) t140 _ A15.out).mono ?_
             rintro e w21 ⟨rfl, hb⟩
             refine ⟨_, rfl, ?_⟩; have n0_ := ak (blk_below (g := gb136) (o := .cells #[.int .i64 ((rd_T49 l0 x11_1).f0), .int .i64 ((rd_T49 l0 x11_1).f1)] 49 (0, 0)) (uq BK136) hb); have n1_ := ak (below_step bs hb); clear BK136; clear HB; have BK136 := n0_; have HB := n1_; clear n0_ n1_
             (try clear hb)
             (try clear hb2)
             (try clear hk)
             (try clear hi)
             refine hK.out _ _ ⟨(blk_cell BK136.out 0).trans rfl, (blk_cell BK136.out 1).trans rfl, ((hb_ HB hw139_0).trans rfl), ((hb_ HB hw139_1).trans rfl)⟩ (fun hHeld => ?_); clear hK K; refine norm_ (a' := ?_) ?_ ?_; rotate_left
             ·show Act.put _ (some 36) _ = _
              simp only [Act.put, sA, sZ, sS, i64_w, i32_w]
              rfl
             refine pq_ (i := 21) (N := some 37) #[Y,Y,Y,Y,Y,Y,Y,Y,Y,Y,Y,Y,Y,Y,Y,Y,Y,Y,Y,Y,Y,Y,Z,Z] HT_ ?_; refine pq_ (i := 22) (N := some 38) #[Y,Y,Y,Y,Y,Y,Y,Y,Y,Y,Y,Y,Y,Y,Y,Y,Y,Y,Y,Y,Y,Y,Y,Z] HT_ ?_; refine pq_ (i := 23) (N := some 39) #[Y,Y,Y,Y,Y,Y,Y,Y,Y,Y,Y,Y,Y,Y,Y,Y,Y,Y,Y,Y,Y,Y,Y,Y] HT_ ?_; refine done_ (done_of HT_.out (by kernel_rfl)) ?_; (try go_wp2); go_ret; exact ⟨by first | rfl | (simp [errW_none, errW_some] <;> rfl) | (simp only [← hji12]; first | rfl | (simp [errW_none, errW_some] <;> rfl)) | (simp [*, errW_none, errW_some] <;> rfl), bs⟩
            ·rw [if_neg c16] at H
             have c16b0 : decide (0 ≤ t140) = false := decide_eq_false c16; clear c16; have H' := ak H; clear H; have p135 : 0 ≤ (x11_1 : Int) := dq; have q135 : x11_1 < (l0.length : Int) := dq; obtain ⟨ad135, e135, hx135_0, hx135_1⟩ := at_T49 HR0.out x11_1 p135 q135; cases e135; replace hx135_0 := hb_ HB hx135_0; replace hx135_1 := hb_ HB hx135_1; replace p135 := eq_true p135; replace q135 := eq_true q135
             try go_wp2_with (first | ((with_reducible refine gate_dst (N := 4) rfl ?_); refine box_event ?hg (N := 4) ?hd (cs := #[.int .i64 0, .int .i64 0]) (t := 49) ?hr ?_; (case hd => rfl); (case hg => rfl); (case hr => first | (go_simp; done) | (go_simp; rfl)); intro gb136 hg w22 hbox hb; have n0_ := ak (below_step bq hb); have n1_ := ak (hbox); have n2_ := ak ((by rw [hg]; exact (below_size bq) : w.heap.size ≤ gb136)); have n3_ := ak ((by rw [hg]; exact (below_size bq) : w.heap.size ≤ gb136)); clear HB; have HB := n0_; have BK136 := n1_; have GW136 := n2_; have GE136 := n3_; clear n0_ n1_ n2_ n3_; clear hb hbox hg; have hcz23_0 : w22.cell? ⟨gb136, 0, none⟩ = some (.int .i64 0) := (blk_cell BK136.out 0).trans rfl; have hcz23_1 : w22.cell? ⟨gb136, 1, none⟩ = some (.int .i64 0) := (blk_cell BK136.out 1).trans rfl; have hfz23_0 := blk_frozen BK136.out 0; have hfz23_1 := blk_frozen BK136.out 1))
             have n0_ : Aside0 (((w22.setCell ⟨gb136, 0, none⟩ (.int .i64 ((rd_T49 l0 x11_1).f0))).setCell ⟨gb136, 1, none⟩ (.int .i64 ((rd_T49 l0 x11_1).f1))).heap[gb136]? = some (.cells #[.int .i64 ((rd_T49 l0 x11_1).f0), .int .i64 ((rd_T49 l0 x11_1).f1)] 49 (0, 0))) := ⟨by (with_reducible repeat (first | refine blk_drewN ?_ _ | refine blk_drew ?_ | refine blk_alloc ?_ _)); refine blk_put (cs := #[.int .i64 ((rd_T49 l0 x11_1).f0), .int .i64 0]) ?_ 1 _ rfl; (with_reducible repeat (first | refine blk_drewN ?_ _ | refine blk_drew ?_ | refine blk_alloc ?_ _)); refine blk_put (cs := #[.int .i64 0, .int .i64 0]) ?_ 0 _ rfl; (with_reducible repeat (first | refine blk_drewN ?_ _ | refine blk_drew ?_ | refine blk_alloc ?_ _)); exact BK136.out⟩; have n1_ : Aside0 (Below w.heap.size w ((w22.setCell ⟨gb136, 0, none⟩ (.int .i64 ((rd_T49 l0 x11_1).f0))).setCell ⟨gb136, 1, none⟩ (.int .i64 ((rd_T49 l0 x11_1).f1)))) := ⟨bs⟩
             (try clear BK136)
             (try clear HB)
             generalize ((w22.setCell ⟨gb136, 0, none⟩ (.int .i64 ((rd_T49 l0 x11_1).f0))).setCell ⟨gb136, 1, none⟩ (.int .i64 ((rd_T49 l0 x11_1).f1))) = w24 at n0_ n1_ ⊢
             have BK136 := n0_; have HB := n1_; clear n0_ n1_; have n0_ := ak (blk_drew BK136.out); have n1_ := ak (below_drew1 HB.out); clear BK136; clear HB; have BK136 := n0_; have HB := n1_; clear n0_ n1_; have p139 : 0 ≤ ((ji12) : Int) := dq; have q139 : (ji12) < (l0.length : Int) := dq; obtain ⟨ad139, e139, hx139_0, hx139_1⟩ := at_T49 HR0.out (ji12) p139 q139; have hw139_1 := hx139_1; have hw139_0 := hx139_0; obtain rfl : ad135 = ad139 := (by injection e139); replace hx139_0 := hb_ HB hx139_0; replace hx139_1 := hb_ HB hx139_1; replace p139 := eq_true p139; replace q139 := eq_true q139; refine start_ (n := 24) (S := fun w' => w'.cell? ⟨gb136, 0, none⟩ = some (.int .i64 ((rd_T49 l0 x11_1).f0)) ∧ w'.cell? ⟨gb136, 1, none⟩ = some (.int .i64 ((rd_T49 l0 x11_1).f1)) ∧ w'.cell? (ad135.add (((ji12)).toNat * 2)) = some (.int .i64 ((rd_T49 l0 (ji12)).f0)) ∧ w'.cell? ⟨(ad135.add (((ji12)).toNat * 2)).block, (ad135.add (((ji12)).toNat * 2)).off + 1, none⟩ = some (.int .i64 ((rd_T49 l0 (ji12)).f1))) (ds := []) #[Z,Z,Z,Z,Z,Z,Z,Z,Z,Z,Z,Z,Z,Z,Z,Z,Z,Z,Z,Z,Z,Z,Z,Z] (by kernel_rfl) rfl rfl ⟨(blk_cell BK136.out 0).trans rfl, (blk_cell BK136.out 1).trans rfl, ((hb_ HB hw139_0).trans rfl), ((hb_ HB hw139_1).trans rfl)⟩ (fun hHeld => ?_); refine with_tabW impl_IsBody.tab6 impl_IsBody.bits6 (fun HT_ HW_ => ?_)
             generalize w24.drew = w25 at BK136 HB hx139_0 hx139_1 hHeld ⊢
             refine pq_ (i := 0) (N := some 16) #[Y,Z,Z,Z,Z,Z,Z,Z,Z,Z,Z,Z,Z,Z,Z,Z,Z,Z,Z,Z,Z,Z,Z,Z] HT_ ?_; refine tk_ (i := 1) (N := some 17) #[Y,Y,Z,Z,Z,Z,Z,Z,Z,Z,Z,Z,Z,Z,Z,Z,Z,Z,Z,Z,Z,Z,Z,Z] HT_ HW_ hHeld ?_; refine one_ (i := 2) (N := some 18) #[Y,Y,Y,Z,Z,Z,Z,Z,Z,Z,Z,Z,Z,Z,Z,Z,Z,Z,Z,Z,Z,Z,Z,Z] rfl rfl (one_of HT_.out (by kernel_rfl)) (by decide) (fun K hK => ?_); refine goes_ Try.func69 (by kernel_rfl) rfl #[.int .i64 ((rd_T49 l0 x11_1).f0), .int .i64 0, .int .i64 12] (by rfl) rfl rfl aq ?_
             with_reducible refine (impl_within.calls ((rd_T49 l0 x11_1).f0) 0 12 true _ A7.out).mono ?_
             rintro e w' ⟨rfl, ⟨nd, rfl⟩⟩
             refine ⟨_, rfl, ?_⟩; refine hK.out _ _ ⟨(blk_cell BK136.out 0).trans rfl, (blk_cell BK136.out 1).trans rfl, ((hb_ HB hw139_0).trans rfl), ((hb_ HB hw139_1).trans rfl)⟩ (fun hHeld => ?_); clear hK K; refine norm_ (a' := ?_) ?_ ?_; rotate_left
             ·show Act.put _ (some 18) _ = _
              simp only [Act.put, sA, sZ, sS, i64_w, i32_w]
              rfl
             refine pq_ (i := 3) (N := some 19) #[Y,Y,Y,Y,Z,Z,Z,Z,Z,Z,Z,Z,Z,Z,Z,Z,Z,Z,Z,Z,Z,Z,Z,Z] HT_ ?_; refine pq_ (i := 4) (N := some 20) #[Y,Y,Y,Y,Y,Z,Z,Z,Z,Z,Z,Z,Z,Z,Z,Z,Z,Z,Z,Z,Z,Z,Z,Z] HT_ ?_; refine pq_ (i := 5) (N := some 21) #[Y,Y,Y,Y,Y,Y,Z,Z,Z,Z,Z,Z,Z,Z,Z,Z,Z,Z,Z,Z,Z,Z,Z,Z] HT_ ?_; refine tk_ (i := 6) (N := some 22) #[Y,Y,Y,Y,Y,Y,Y,Z,Z,Z,Z,Z,Z,Z,Z,Z,Z,Z,Z,Z,Z,Z,Z,Z] HT_ HW_ hHeld ?_; refine one_ (i := 7) (N := some 23) #[Y,Y,Y,Y,Y,Y,Y,Y,Z,Z,Z,Z,Z,Z,Z,Z,Z,Z,Z,Z,Z,Z,Z,Z] rfl rfl (one_of HT_.out (by kernel_rfl)) (by decide) (fun K hK => ?_); refine goes_ Try.func69 (by kernel_rfl) rfl #[.int .i64 ((rd_T49 l0 x11_1).f1), .int .i64 0, .int .i64 12] (by rfl) rfl rfl aq ?_
             with_reducible refine (impl_within.calls ((rd_T49 l0 x11_1).f1) 0 12 true _ A9.out).mono ?_
             rintro e w' ⟨rfl, ⟨nd, rfl⟩⟩
             refine ⟨_, rfl, ?_⟩; refine hK.out _ _ ⟨(blk_cell BK136.out 0).trans rfl, (blk_cell BK136.out 1).trans rfl, ((hb_ HB hw139_0).trans rfl), ((hb_ HB hw139_1).trans rfl)⟩ (fun hHeld => ?_); clear hK K; refine norm_ (a' := ?_) ?_ ?_; rotate_left
             ·show Act.put _ (some 23) _ = _
              simp only [Act.put, sA, sZ, sS, i64_w, i32_w]
              rfl
             refine pq_ (i := 8) (N := some 24) #[Y,Y,Y,Y,Y,Y,Y,Y,Y,Z,Z,Z,Z,Z,Z,Z,Z,Z,Z,Z,Z,Z,Z,Z] HT_ ?_; refine pq_ (i := 9) (N := some 25) #[Y,Y,Y,Y,Y,Y,Y,Y,Y,Y,Z,Z,Z,Z,Z,Z,Z,Z,Z,Z,Z,Z,Z,Z] HT_ ?_; refine pq_ (i := 10) (N := some 26) #[Y,Y,Y,Y,Y,Y,Y,Y,Y,Y,Y,Z,Z,Z,Z,Z,Z,Z,Z,Z,Z,Z,Z,Z] HT_ ?_; refine pq_ (i := 11) (N := some 27) #[Y,Y,Y,Y,Y,Y,Y,Y,Y,Y,Y,Y,Z,Z,Z,Z,Z,Z,Z,Z,Z,Z,Z,Z] HT_ ?_; refine pq_ (i := 12) (N := some 28) #[Y,Y,Y,Y,Y,Y,Y,Y,Y,Y,Y,Y,Y,Z,Z,Z,Z,Z,Z,Z,Z,Z,Z,Z] HT_ ?_; refine pq_ (i := 13) (N := some 29) #[Y,Y,Y,Y,Y,Y,Y,Y,Y,Y,Y,Y,Y,Y,Z,Z,Z,Z,Z,Z,Z,Z,Z,Z] HT_ ?_; refine pq_ (i := 14) (N := some 30) #[Y,Y,Y,Y,Y,Y,Y,Y,Y,Y,Y,Y,Y,Y,Y,Z,Z,Z,Z,Z,Z,Z,Z,Z] HT_ ?_; refine pq_ (i := 15) (N := some 31) #[Y,Y,Y,Y,Y,Y,Y,Y,Y,Y,Y,Y,Y,Y,Y,Y,Z,Z,Z,Z,Z,Z,Z,Z] HT_ ?_; refine pq_ (i := 16) (N := some 32) #[Y,Y,Y,Y,Y,Y,Y,Y,Y,Y,Y,Y,Y,Y,Y,Y,Y,Z,Z,Z,Z,Z,Z,Z] HT_ ?_; refine pq_ (i := 17) (N := some 33) #[Y,Y,Y,Y,Y,Y,Y,Y,Y,Y,Y,Y,Y,Y,Y,Y,Y,Y,Z,Z,Z,Z,Z,Z] HT_ ?_; refine tk_ (i := 18) (N := some 34) #[Y,Y,Y,Y,Y,Y,Y,Y,Y,Y,Y,Y,Y,Y,Y,Y,Y,Y,Y,Z,Z,Z,Z,Z] HT_ HW_ hHeld ?_; refine tk_ (i := 19) (N := some 35) #[Y,Y,Y,Y,Y,Y,Y,Y,Y,Y,Y,Y,Y,Y,Y,Y,Y,Y,Y,Y,Z,Z,Z,Z] HT_ HW_ hHeld ?_; refine one_ (i := 20) (N := some 36) #[Y,Y,Y,Y,Y,Y,Y,Y,Y,Y,Y,Y,Y,Y,Y,Y,Y,Y,Y,Y,Y,Z,Z,Z] rfl rfl (one_of HT_.out (by kernel_rfl)) (by decide) (fun K hK => ?_); refine goes_ Try.func84 (by kernel_rfl) rfl #[.agg #[.int .i64 ((rd_T49 l0 (ji12)).f0), .int .i64 ((rd_T49 l0 (ji12)).f1)], .agg #[.int .i64 ((rd_T49 l0 x11_1).f0), .int .i64 ((rd_T49 l0 x11_1).f1)]] (by rfl) rfl rfl (by (try simp only [List.map_toArray, List.map_cons, List.map_nil]); first | done | (simp only [hji12]; rfl) | rfl | (simp only [List.length_drop, List.length_take]; rfl)) ?_
             with_reducible refine (impl_compareCells.calls k1 ((rd_T49 l0 (ji12)).f0) ((rd_T49 l0 (ji12)).f1) ((rd_T49 l0 x11_1).f0) ((rd_T49 l0 x11_1).f1) t140 _ A15.out).mono ?_
             rintro e w26 ⟨rfl, hb⟩
             refine ⟨_, rfl, ?_⟩; have n0_ := ak (blk_below (g := gb136) (o := .cells #[.int .i64 ((rd_T49 l0 x11_1).f0), .int .i64 ((rd_T49 l0 x11_1).f1)] 49 (0, 0)) (uq BK136) hb); have n1_ := ak (below_step bs hb); clear BK136; clear HB; have BK136 := n0_; have HB := n1_; clear n0_ n1_
             (try clear hb)
             (try clear hb2)
             (try clear hk)
             (try clear hi)
             refine hK.out _ _ ⟨(blk_cell BK136.out 0).trans rfl, (blk_cell BK136.out 1).trans rfl, ((hb_ HB hw139_0).trans rfl), ((hb_ HB hw139_1).trans rfl)⟩ (fun hHeld => ?_); clear hK K; refine norm_ (a' := ?_) ?_ ?_; rotate_left
             ·show Act.put _ (some 36) _ = _
              simp only [Act.put, sA, sZ, sS, i64_w, i32_w]
              rfl
             refine pq_ (i := 21) (N := some 37) #[Y,Y,Y,Y,Y,Y,Y,Y,Y,Y,Y,Y,Y,Y,Y,Y,Y,Y,Y,Y,Y,Y,Z,Z] HT_ ?_; refine pq_ (i := 22) (N := some 38) #[Y,Y,Y,Y,Y,Y,Y,Y,Y,Y,Y,Y,Y,Y,Y,Y,Y,Y,Y,Y,Y,Y,Y,Z] HT_ ?_; refine pq_ (i := 23) (N := some 39) #[Y,Y,Y,Y,Y,Y,Y,Y,Y,Y,Y,Y,Y,Y,Y,Y,Y,Y,Y,Y,Y,Y,Y,Y] HT_ ?_; refine done_ (done_of HT_.out (by kernel_rfl)) ?_; (try go_wp2); go_roundg k1
             case measure => have := HK1.out; omega
             case rel => exact ⟨(wrap64 (x11_1 + 1)), sq, H', ⟨by have := HK1.out; omega⟩, ⟨bs⟩⟩
           ·rw [if_neg c14] at H
            exact absurd H (by simp)
          ·rw [if_neg c13] at H
           exact absurd H (by simp)
         ·rw [if_neg c11] at H
          have c11b0 : decide (0 < x11_1) = false := decide_eq_false c11; clear c11; have H' := ak H; clear H; have p135 : 0 ≤ (x11_1 : Int) := dq; have q135 : x11_1 < (l0.length : Int) := dq; obtain ⟨ad135, e135, hx135_0, hx135_1⟩ := at_T49 HR0.out x11_1 p135 q135; cases e135; replace hx135_0 := hb_ HB hx135_0; replace hx135_1 := hb_ HB hx135_1; replace p135 := eq_true p135; replace q135 := eq_true q135
          try go_wp2_with (first | ((with_reducible refine gate_dst (N := 4) rfl ?_); refine box_event ?hg (N := 4) ?hd (cs := #[.int .i64 0, .int .i64 0]) (t := 49) ?hr ?_; (case hd => rfl); (case hg => rfl); (case hr => first | (go_simp; done) | (go_simp; rfl)); intro gb136 hg w27 hbox hb; have n0_ := ak (below_step bq hb); have n1_ := ak (hbox); have n2_ := ak ((by rw [hg]; exact (below_size bq) : w.heap.size ≤ gb136)); have n3_ := ak ((by rw [hg]; exact (below_size bq) : w.heap.size ≤ gb136)); clear HB; have HB := n0_; have BK136 := n1_; have GW136 := n2_; have GE136 := n3_; clear n0_ n1_ n2_ n3_; clear hb hbox hg; have hcz28_0 : w27.cell? ⟨gb136, 0, none⟩ = some (.int .i64 0) := (blk_cell BK136.out 0).trans rfl; have hcz28_1 : w27.cell? ⟨gb136, 1, none⟩ = some (.int .i64 0) := (blk_cell BK136.out 1).trans rfl; have hfz28_0 := blk_frozen BK136.out 0; have hfz28_1 := blk_frozen BK136.out 1))
          have n0_ : Aside0 (((w27.setCell ⟨gb136, 0, none⟩ (.int .i64 ((rd_T49 l0 x11_1).f0))).setCell ⟨gb136, 1, none⟩ (.int .i64 ((rd_T49 l0 x11_1).f1))).heap[gb136]? = some (.cells #[.int .i64 ((rd_T49 l0 x11_1).f0), .int .i64 ((rd_T49 l0 x11_1).f1)] 49 (0, 0))) := ⟨by (with_reducible repeat (first | refine blk_drewN ?_ _ | refine blk_drew ?_ | refine blk_alloc ?_ _)); refine blk_put (cs := #[.int .i64 ((rd_T49 l0 x11_1).f0), .int .i64 0]) ?_ 1 _ rfl; (with_reducible repeat (first | refine blk_drewN ?_ _ | refine blk_drew ?_ | refine blk_alloc ?_ _)); refine blk_put (cs := #[.int .i64 0, .int .i64 0]) ?_ 0 _ rfl; (with_reducible repeat (first | refine blk_drewN ?_ _ | refine blk_drew ?_ | refine blk_alloc ?_ _)); exact BK136.out⟩; have n1_ : Aside0 (Below w.heap.size w ((w27.setCell ⟨gb136, 0, none⟩ (.int .i64 ((rd_T49 l0 x11_1).f0))).setCell ⟨gb136, 1, none⟩ (.int .i64 ((rd_T49 l0 x11_1).f1)))) := ⟨bs⟩
          (try clear BK136)
          (try clear HB)
          generalize ((w27.setCell ⟨gb136, 0, none⟩ (.int .i64 ((rd_T49 l0 x11_1).f0))).setCell ⟨gb136, 1, none⟩ (.int .i64 ((rd_T49 l0 x11_1).f1))) = w29 at n0_ n1_ ⊢
          have BK136 := n0_; have HB := n1_; clear n0_ n1_; have n0_ := ak (blk_drew BK136.out); have n1_ := ak (below_drew1 HB.out); clear BK136; clear HB; have BK136 := n0_; have HB := n1_; clear n0_ n1_; refine start_ (n := 24) (S := fun w' => w'.cell? ⟨gb136, 0, none⟩ = some (.int .i64 ((rd_T49 l0 x11_1).f0)) ∧ w'.cell? ⟨gb136, 1, none⟩ = some (.int .i64 ((rd_T49 l0 x11_1).f1))) (ds := []) #[Z,Z,Z,Z,Z,Z,Z,Z,Z,Z,Z,Z,Z,Z,Z,Z,Z,Z,Z,Z,Z,Z,Z,Z] (by kernel_rfl) rfl rfl ⟨(blk_cell BK136.out 0).trans rfl, (blk_cell BK136.out 1).trans rfl⟩ (fun hHeld => ?_); refine with_tabW impl_IsBody.tab6 impl_IsBody.bits6 (fun HT_ HW_ => ?_)
          generalize w29.drew = w30 at BK136 HB hHeld ⊢
          refine pq_ (i := 0) (N := some 16) #[Y,Z,Z,Z,Z,Z,Z,Z,Z,Z,Z,Z,Z,Z,Z,Z,Z,Z,Z,Z,Z,Z,Z,Z] HT_ ?_; refine tk_ (i := 1) (N := some 17) #[Y,Y,Z,Z,Z,Z,Z,Z,Z,Z,Z,Z,Z,Z,Z,Z,Z,Z,Z,Z,Z,Z,Z,Z] HT_ HW_ hHeld ?_; refine one_ (i := 2) (N := some 18) #[Y,Y,Y,Z,Z,Z,Z,Z,Z,Z,Z,Z,Z,Z,Z,Z,Z,Z,Z,Z,Z,Z,Z,Z] rfl rfl (one_of HT_.out (by kernel_rfl)) (by decide) (fun K hK => ?_); refine goes_ Try.func69 (by kernel_rfl) rfl #[.int .i64 ((rd_T49 l0 x11_1).f0), .int .i64 0, .int .i64 12] (by rfl) rfl rfl aq ?_
          with_reducible refine (impl_within.calls ((rd_T49 l0 x11_1).f0) 0 12 true _ A7.out).mono ?_
          rintro e w' ⟨rfl, ⟨nd, rfl⟩⟩
          refine ⟨_, rfl, ?_⟩; refine hK.out _ _ ⟨(blk_cell BK136.out 0).trans rfl, (blk_cell BK136.out 1).trans rfl⟩ (fun hHeld => ?_); clear hK K; refine norm_ (a' := ?_) ?_ ?_; rotate_left
          ·show Act.put _ (some 18) _ = _
           simp only [Act.put, sA, sZ, sS, i64_w, i32_w]
           rfl
          refine pq_ (i := 3) (N := some 19) #[Y,Y,Y,Y,Z,Z,Z,Z,Z,Z,Z,Z,Z,Z,Z,Z,Z,Z,Z,Z,Z,Z,Z,Z] HT_ ?_; refine pq_ (i := 4) (N := some 20) #[Y,Y,Y,Y,Y,Z,Z,Z,Z,Z,Z,Z,Z,Z,Z,Z,Z,Z,Z,Z,Z,Z,Z,Z] HT_ ?_; refine pq_ (i := 5) (N := some 21) #[Y,Y,Y,Y,Y,Y,Z,Z,Z,Z,Z,Z,Z,Z,Z,Z,Z,Z,Z,Z,Z,Z,Z,Z] HT_ ?_; refine tk_ (i := 6) (N := some 22) #[Y,Y,Y,Y,Y,Y,Y,Z,Z,Z,Z,Z,Z,Z,Z,Z,Z,Z,Z,Z,Z,Z,Z,Z] HT_ HW_ hHeld ?_; refine one_ (i := 7) (N := some 23) #[Y,Y,Y,Y,Y,Y,Y,Y,Z,Z,Z,Z,Z,Z,Z,Z,Z,Z,Z,Z,Z,Z,Z,Z] rfl rfl (one_of HT_.out (by kernel_rfl)) (by decide) (fun K hK => ?_); refine goes_ Try.func69 (by kernel_rfl) rfl #[.int .i64 ((rd_T49 l0 x11_1).f1), .int .i64 0, .int .i64 12] (by rfl) rfl rfl aq ?_
          with_reducible refine (impl_within.calls ((rd_T49 l0 x11_1).f1) 0 12 true _ A9.out).mono ?_
          rintro e w' ⟨rfl, ⟨nd, rfl⟩⟩
          refine ⟨_, rfl, ?_⟩; refine hK.out _ _ ⟨(blk_cell BK136.out 0).trans rfl, (blk_cell BK136.out 1).trans rfl⟩ (fun hHeld => ?_); clear hK K; refine norm_ (a' := ?_) ?_ ?_; rotate_left
          ·show Act.put _ (some 23) _ = _
           simp only [Act.put, sA, sZ, sS, i64_w, i32_w]
           rfl
          refine pq_ (i := 8) (N := some 24) #[Y,Y,Y,Y,Y,Y,Y,Y,Y,Z,Z,Z,Z,Z,Z,Z,Z,Z,Z,Z,Z,Z,Z,Z] HT_ ?_; refine pq_ (i := 9) (N := some 25) #[Y,Y,Y,Y,Y,Y,Y,Y,Y,Y,Z,Z,Z,Z,Z,Z,Z,Z,Z,Z,Z,Z,Z,Z] HT_ ?_; refine pq_ (i := 10) (N := some 26) #[Y,Y,Y,Y,Y,Y,Y,Y,Y,Y,Y,Z,Z,Z,Z,Z,Z,Z,Z,Z,Z,Z,Z,Z] HT_ ?_; refine pq_ (i := 11) (N := some 27) #[Y,Y,Y,Y,Y,Y,Y,Y,Y,Y,Y,Y,Z,Z,Z,Z,Z,Z,Z,Z,Z,Z,Z,Z] HT_ ?_; refine pq_ (i := 12) (N := some 28) #[Y,Y,Y,Y,Y,Y,Y,Y,Y,Y,Y,Y,Y,Z,Z,Z,Z,Z,Z,Z,Z,Z,Z,Z] HT_ ?_; refine pq_ (i := 13) (N := some 29) #[Y,Y,Y,Y,Y,Y,Y,Y,Y,Y,Y,Y,Y,Y,Z,Z,Z,Z,Z,Z,Z,Z,Z,Z] HT_ ?_; refine pz_ (i := 14) (N := some 30) (v := undef) #[Y,Y,Y,Y,Y,Y,Y,Y,Y,Y,Y,Y,Y,Y,Y,Z,Z,Z,Z,Z,Z,Z,Z,Z] HT_ ?_; refine pz_ (i := 15) (N := some 31) (v := undef) #[Y,Y,Y,Y,Y,Y,Y,Y,Y,Y,Y,Y,Y,Y,Y,Y,Z,Z,Z,Z,Z,Z,Z,Z] HT_ ?_; refine pz_ (i := 16) (N := some 32) (v := undef) #[Y,Y,Y,Y,Y,Y,Y,Y,Y,Y,Y,Y,Y,Y,Y,Y,Y,Z,Z,Z,Z,Z,Z,Z] HT_ ?_; refine pz_ (i := 17) (N := some 33) (v := undef) #[Y,Y,Y,Y,Y,Y,Y,Y,Y,Y,Y,Y,Y,Y,Y,Y,Y,Y,Z,Z,Z,Z,Z,Z] HT_ ?_; refine pz_ (i := 18) (N := some 34) (v := undef) #[Y,Y,Y,Y,Y,Y,Y,Y,Y,Y,Y,Y,Y,Y,Y,Y,Y,Y,Y,Z,Z,Z,Z,Z] HT_ ?_; refine pz_ (i := 19) (N := some 35) (v := undef) #[Y,Y,Y,Y,Y,Y,Y,Y,Y,Y,Y,Y,Y,Y,Y,Y,Y,Y,Y,Y,Z,Z,Z,Z] HT_ ?_; refine pz_ (i := 20) (N := some 36) (v := undef) #[Y,Y,Y,Y,Y,Y,Y,Y,Y,Y,Y,Y,Y,Y,Y,Y,Y,Y,Y,Y,Y,Z,Z,Z] HT_ ?_; refine pz_ (i := 21) (N := some 37) (v := undef) #[Y,Y,Y,Y,Y,Y,Y,Y,Y,Y,Y,Y,Y,Y,Y,Y,Y,Y,Y,Y,Y,Y,Z,Z] HT_ ?_; refine pq_ (i := 22) (N := some 38) #[Y,Y,Y,Y,Y,Y,Y,Y,Y,Y,Y,Y,Y,Y,Y,Y,Y,Y,Y,Y,Y,Y,Y,Z] HT_ ?_; refine pq_ (i := 23) (N := some 39) #[Y,Y,Y,Y,Y,Y,Y,Y,Y,Y,Y,Y,Y,Y,Y,Y,Y,Y,Y,Y,Y,Y,Y,Y] HT_ ?_; refine done_ (done_of HT_.out (by kernel_rfl)) ?_; (try go_wp2); go_roundg k1
          case measure => have := HK1.out; omega
          case rel => exact ⟨(wrap64 (x11_1 + 1)), sq, H', ⟨by have := HK1.out; omega⟩, ⟨bs⟩⟩
        ·replace c10 := Bool.eq_false_iff.mpr c10
         subst c10; rw [if_neg (show ¬ (false = true) by decide)] at H; obtain rfl := Option.some.inj H; have p135 : 0 ≤ (x11_1 : Int) := dq; have q135 : x11_1 < (l0.length : Int) := dq; obtain ⟨ad135, e135, hx135_0, hx135_1⟩ := at_T49 HR0.out x11_1 p135 q135; cases e135; replace hx135_0 := hb_ HB hx135_0; replace hx135_1 := hb_ HB hx135_1; replace p135 := eq_true p135; replace q135 := eq_true q135
         try go_wp2_with (first | ((with_reducible refine gate_dst (N := 4) rfl ?_); refine box_event ?hg (N := 4) ?hd (cs := #[.int .i64 0, .int .i64 0]) (t := 49) ?hr ?_; (case hd => rfl); (case hg => rfl); (case hr => first | (go_simp; done) | (go_simp; rfl)); intro gb136 hg w31 hbox hb; have n0_ := ak (below_step bq hb); have n1_ := ak (hbox); have n2_ := ak ((by rw [hg]; exact (below_size bq) : w.heap.size ≤ gb136)); have n3_ := ak ((by rw [hg]; exact (below_size bq) : w.heap.size ≤ gb136)); clear HB; have HB := n0_; have BK136 := n1_; have GW136 := n2_; have GE136 := n3_; clear n0_ n1_ n2_ n3_; clear hb hbox hg; have hcz32_0 : w31.cell? ⟨gb136, 0, none⟩ = some (.int .i64 0) := (blk_cell BK136.out 0).trans rfl; have hcz32_1 : w31.cell? ⟨gb136, 1, none⟩ = some (.int .i64 0) := (blk_cell BK136.out 1).trans rfl; have hfz32_0 := blk_frozen BK136.out 0; have hfz32_1 := blk_frozen BK136.out 1))
         have n0_ : Aside0 (((w31.setCell ⟨gb136, 0, none⟩ (.int .i64 ((rd_T49 l0 x11_1).f0))).setCell ⟨gb136, 1, none⟩ (.int .i64 ((rd_T49 l0 x11_1).f1))).heap[gb136]? = some (.cells #[.int .i64 ((rd_T49 l0 x11_1).f0), .int .i64 ((rd_T49 l0 x11_1).f1)] 49 (0, 0))) := ⟨by (with_reducible repeat (first | refine blk_drewN ?_ _ | refine blk_drew ?_ | refine blk_alloc ?_ _)); refine blk_put (cs := #[.int .i64 ((rd_T49 l0 x11_1).f0), .int .i64 0]) ?_ 1 _ rfl; (with_reducible repeat (first | refine blk_drewN ?_ _ | refine blk_drew ?_ | refine blk_alloc ?_ _)); refine blk_put (cs := #[.int .i64 0, .int .i64 0]) ?_ 0 _ rfl; (with_reducible repeat (first | refine blk_drewN ?_ _ | refine blk_drew ?_ | refine blk_alloc ?_ _)); exact BK136.out⟩; have n1_ : Aside0 (Below w.heap.size w ((w31.setCell ⟨gb136, 0, none⟩ (.int .i64 ((rd_T49 l0 x11_1).f0))).setCell ⟨gb136, 1, none⟩ (.int .i64 ((rd_T49 l0 x11_1).f1)))) := ⟨bs⟩
         (try clear BK136)
         (try clear HB)
         generalize ((w31.setCell ⟨gb136, 0, none⟩ (.int .i64 ((rd_T49 l0 x11_1).f0))).setCell ⟨gb136, 1, none⟩ (.int .i64 ((rd_T49 l0 x11_1).f1))) = w33 at n0_ n1_ ⊢
         have BK136 := n0_; have HB := n1_; clear n0_ n1_; have n0_ := ak (blk_drew BK136.out); have n1_ := ak (below_drew1 HB.out); clear BK136; clear HB; have BK136 := n0_; have HB := n1_; clear n0_ n1_; refine start_ (n := 24) (S := fun w' => w'.cell? ⟨gb136, 0, none⟩ = some (.int .i64 ((rd_T49 l0 x11_1).f0)) ∧ w'.cell? ⟨gb136, 1, none⟩ = some (.int .i64 ((rd_T49 l0 x11_1).f1))) (ds := []) #[Z,Z,Z,Z,Z,Z,Z,Z,Z,Z,Z,Z,Z,Z,Z,Z,Z,Z,Z,Z,Z,Z,Z,Z] (by kernel_rfl) rfl rfl ⟨(blk_cell BK136.out 0).trans rfl, (blk_cell BK136.out 1).trans rfl⟩ (fun hHeld => ?_); refine with_tabW impl_IsBody.tab6 impl_IsBody.bits6 (fun HT_ HW_ => ?_)
         generalize w33.drew = w34 at BK136 HB hHeld ⊢
         refine pq_ (i := 0) (N := some 16) #[Y,Z,Z,Z,Z,Z,Z,Z,Z,Z,Z,Z,Z,Z,Z,Z,Z,Z,Z,Z,Z,Z,Z,Z] HT_ ?_; refine tk_ (i := 1) (N := some 17) #[Y,Y,Z,Z,Z,Z,Z,Z,Z,Z,Z,Z,Z,Z,Z,Z,Z,Z,Z,Z,Z,Z,Z,Z] HT_ HW_ hHeld ?_; refine one_ (i := 2) (N := some 18) #[Y,Y,Y,Z,Z,Z,Z,Z,Z,Z,Z,Z,Z,Z,Z,Z,Z,Z,Z,Z,Z,Z,Z,Z] rfl rfl (one_of HT_.out (by kernel_rfl)) (by decide) (fun K hK => ?_); refine goes_ Try.func69 (by kernel_rfl) rfl #[.int .i64 ((rd_T49 l0 x11_1).f0), .int .i64 0, .int .i64 12] (by rfl) rfl rfl aq ?_
         with_reducible refine (impl_within.calls ((rd_T49 l0 x11_1).f0) 0 12 true _ A7.out).mono ?_
         rintro e w' ⟨rfl, ⟨nd, rfl⟩⟩
         refine ⟨_, rfl, ?_⟩; refine hK.out _ _ ⟨(blk_cell BK136.out 0).trans rfl, (blk_cell BK136.out 1).trans rfl⟩ (fun hHeld => ?_); clear hK K; refine norm_ (a' := ?_) ?_ ?_; rotate_left
         ·show Act.put _ (some 18) _ = _
          simp only [Act.put, sA, sZ, sS, i64_w, i32_w]
          rfl
         refine pq_ (i := 3) (N := some 19) #[Y,Y,Y,Y,Z,Z,Z,Z,Z,Z,Z,Z,Z,Z,Z,Z,Z,Z,Z,Z,Z,Z,Z,Z] HT_ ?_; refine pq_ (i := 4) (N := some 20) #[Y,Y,Y,Y,Y,Z,Z,Z,Z,Z,Z,Z,Z,Z,Z,Z,Z,Z,Z,Z,Z,Z,Z,Z] HT_ ?_; refine pq_ (i := 5) (N := some 21) #[Y,Y,Y,Y,Y,Y,Z,Z,Z,Z,Z,Z,Z,Z,Z,Z,Z,Z,Z,Z,Z,Z,Z,Z] HT_ ?_; refine tk_ (i := 6) (N := some 22) #[Y,Y,Y,Y,Y,Y,Y,Z,Z,Z,Z,Z,Z,Z,Z,Z,Z,Z,Z,Z,Z,Z,Z,Z] HT_ HW_ hHeld ?_; refine one_ (i := 7) (N := some 23) #[Y,Y,Y,Y,Y,Y,Y,Y,Z,Z,Z,Z,Z,Z,Z,Z,Z,Z,Z,Z,Z,Z,Z,Z] rfl rfl (one_of HT_.out (by kernel_rfl)) (by decide) (fun K hK => ?_); refine goes_ Try.func69 (by kernel_rfl) rfl #[.int .i64 ((rd_T49 l0 x11_1).f1), .int .i64 0, .int .i64 12] (by rfl) rfl rfl aq ?_
         with_reducible refine (impl_within.calls ((rd_T49 l0 x11_1).f1) 0 12 false _ A9.out).mono ?_
         rintro e w' ⟨rfl, ⟨nd, rfl⟩⟩
         refine ⟨_, rfl, ?_⟩; refine hK.out _ _ ⟨(blk_cell BK136.out 0).trans rfl, (blk_cell BK136.out 1).trans rfl⟩ (fun hHeld => ?_); clear hK K; refine norm_ (a' := ?_) ?_ ?_; rotate_left
         ·show Act.put _ (some 23) _ = _
          simp only [Act.put, sA, sZ, sS, i64_w, i32_w]
          rfl
         refine pq_ (i := 8) (N := some 24) #[Y,Y,Y,Y,Y,Y,Y,Y,Y,Z,Z,Z,Z,Z,Z,Z,Z,Z,Z,Z,Z,Z,Z,Z] HT_ ?_; refine pq_ (i := 9) (N := some 25) #[Y,Y,Y,Y,Y,Y,Y,Y,Y,Y,Z,Z,Z,Z,Z,Z,Z,Z,Z,Z,Z,Z,Z,Z] HT_ ?_; refine pq_ (i := 10) (N := some 26) #[Y,Y,Y,Y,Y,Y,Y,Y,Y,Y,Y,Z,Z,Z,Z,Z,Z,Z,Z,Z,Z,Z,Z,Z] HT_ ?_; refine pz_ (i := 11) (N := some 27) (v := undef) #[Y,Y,Y,Y,Y,Y,Y,Y,Y,Y,Y,Y,Z,Z,Z,Z,Z,Z,Z,Z,Z,Z,Z,Z] HT_ ?_; refine pz_ (i := 12) (N := some 28) (v := undef) #[Y,Y,Y,Y,Y,Y,Y,Y,Y,Y,Y,Y,Y,Z,Z,Z,Z,Z,Z,Z,Z,Z,Z,Z] HT_ ?_; refine pz_ (i := 13) (N := some 29) (v := undef) #[Y,Y,Y,Y,Y,Y,Y,Y,Y,Y,Y,Y,Y,Y,Z,Z,Z,Z,Z,Z,Z,Z,Z,Z] HT_ ?_; refine pz_ (i := 14) (N := some 30) (v := undef) #[Y,Y,Y,Y,Y,Y,Y,Y,Y,Y,Y,Y,Y,Y,Y,Z,Z,Z,Z,Z,Z,Z,Z,Z] HT_ ?_; refine pz_ (i := 15) (N := some 31) (v := undef) #[Y,Y,Y,Y,Y,Y,Y,Y,Y,Y,Y,Y,Y,Y,Y,Y,Z,Z,Z,Z,Z,Z,Z,Z] HT_ ?_; refine pz_ (i := 16) (N := some 32) (v := undef) #[Y,Y,Y,Y,Y,Y,Y,Y,Y,Y,Y,Y,Y,Y,Y,Y,Y,Z,Z,Z,Z,Z,Z,Z] HT_ ?_; refine pz_ (i := 17) (N := some 33) (v := undef) #[Y,Y,Y,Y,Y,Y,Y,Y,Y,Y,Y,Y,Y,Y,Y,Y,Y,Y,Z,Z,Z,Z,Z,Z] HT_ ?_; refine pz_ (i := 18) (N := some 34) (v := undef) #[Y,Y,Y,Y,Y,Y,Y,Y,Y,Y,Y,Y,Y,Y,Y,Y,Y,Y,Y,Z,Z,Z,Z,Z] HT_ ?_; refine pz_ (i := 19) (N := some 35) (v := undef) #[Y,Y,Y,Y,Y,Y,Y,Y,Y,Y,Y,Y,Y,Y,Y,Y,Y,Y,Y,Y,Z,Z,Z,Z] HT_ ?_; refine pz_ (i := 20) (N := some 36) (v := undef) #[Y,Y,Y,Y,Y,Y,Y,Y,Y,Y,Y,Y,Y,Y,Y,Y,Y,Y,Y,Y,Y,Z,Z,Z] HT_ ?_; refine pz_ (i := 21) (N := some 37) (v := undef) #[Y,Y,Y,Y,Y,Y,Y,Y,Y,Y,Y,Y,Y,Y,Y,Y,Y,Y,Y,Y,Y,Y,Z,Z] HT_ ?_; refine pz_ (i := 22) (N := some 38) (v := undef) #[Y,Y,Y,Y,Y,Y,Y,Y,Y,Y,Y,Y,Y,Y,Y,Y,Y,Y,Y,Y,Y,Y,Y,Z] HT_ ?_; refine pq_ (i := 23) (N := some 39) #[Y,Y,Y,Y,Y,Y,Y,Y,Y,Y,Y,Y,Y,Y,Y,Y,Y,Y,Y,Y,Y,Y,Y,Y] HT_ ?_; refine done_ (done_of HT_.out (by kernel_rfl)) ?_; (try go_wp2); go_ret; exact ⟨eq_, bs⟩
       ·replace c8 := Bool.eq_false_iff.mpr c8
        subst c8; rw [if_neg (show ¬ (false = true) by decide)] at H; obtain rfl := Option.some.inj H; have p135 : 0 ≤ (x11_1 : Int) := dq; have q135 : x11_1 < (l0.length : Int) := dq; obtain ⟨ad135, e135, hx135_0, hx135_1⟩ := at_T49 HR0.out x11_1 p135 q135; cases e135; replace hx135_0 := hb_ HB hx135_0; replace hx135_1 := hb_ HB hx135_1; replace p135 := eq_true p135; replace q135 := eq_true q135
        try go_wp2_with (first | ((with_reducible refine gate_dst (N := 4) rfl ?_); refine box_event ?hg (N := 4) ?hd (cs := #[.int .i64 0, .int .i64 0]) (t := 49) ?hr ?_; (case hd => rfl); (case hg => rfl); (case hr => first | (go_simp; done) | (go_simp; rfl)); intro gb136 hg w35 hbox hb; have n0_ := ak (below_step bq hb); have n1_ := ak (hbox); have n2_ := ak ((by rw [hg]; exact (below_size bq) : w.heap.size ≤ gb136)); have n3_ := ak ((by rw [hg]; exact (below_size bq) : w.heap.size ≤ gb136)); clear HB; have HB := n0_; have BK136 := n1_; have GW136 := n2_; have GE136 := n3_; clear n0_ n1_ n2_ n3_; clear hb hbox hg; have hcz36_0 : w35.cell? ⟨gb136, 0, none⟩ = some (.int .i64 0) := (blk_cell BK136.out 0).trans rfl; have hcz36_1 : w35.cell? ⟨gb136, 1, none⟩ = some (.int .i64 0) := (blk_cell BK136.out 1).trans rfl; have hfz36_0 := blk_frozen BK136.out 0; have hfz36_1 := blk_frozen BK136.out 1))
        have n0_ : Aside0 (((w35.setCell ⟨gb136, 0, none⟩ (.int .i64 ((rd_T49 l0 x11_1).f0))).setCell ⟨gb136, 1, none⟩ (.int .i64 ((rd_T49 l0 x11_1).f1))).heap[gb136]? = some (.cells #[.int .i64 ((rd_T49 l0 x11_1).f0), .int .i64 ((rd_T49 l0 x11_1).f1)] 49 (0, 0))) := ⟨by (with_reducible repeat (first | refine blk_drewN ?_ _ | refine blk_drew ?_ | refine blk_alloc ?_ _)); refine blk_put (cs := #[.int .i64 ((rd_T49 l0 x11_1).f0), .int .i64 0]) ?_ 1 _ rfl; (with_reducible repeat (first | refine blk_drewN ?_ _ | refine blk_drew ?_ | refine blk_alloc ?_ _)); refine blk_put (cs := #[.int .i64 0, .int .i64 0]) ?_ 0 _ rfl; (with_reducible repeat (first | refine blk_drewN ?_ _ | refine blk_drew ?_ | refine blk_alloc ?_ _)); exact BK136.out⟩; have n1_ : Aside0 (Below w.heap.size w ((w35.setCell ⟨gb136, 0, none⟩ (.int .i64 ((rd_T49 l0 x11_1).f0))).setCell ⟨gb136, 1, none⟩ (.int .i64 ((rd_T49 l0 x11_1).f1)))) := ⟨bs⟩
        (try clear BK136)
        (try clear HB)
        generalize ((w35.setCell ⟨gb136, 0, none⟩ (.int .i64 ((rd_T49 l0 x11_1).f0))).setCell ⟨gb136, 1, none⟩ (.int .i64 ((rd_T49 l0 x11_1).f1))) = w37 at n0_ n1_ ⊢
        have BK136 := n0_; have HB := n1_; clear n0_ n1_; have n0_ := ak (blk_drew BK136.out); have n1_ := ak (below_drew1 HB.out); clear BK136; clear HB; have BK136 := n0_; have HB := n1_; clear n0_ n1_; refine start_ (n := 24) (S := fun w' => w'.cell? ⟨gb136, 0, none⟩ = some (.int .i64 ((rd_T49 l0 x11_1).f0)) ∧ w'.cell? ⟨gb136, 1, none⟩ = some (.int .i64 ((rd_T49 l0 x11_1).f1))) (ds := []) #[Z,Z,Z,Z,Z,Z,Z,Z,Z,Z,Z,Z,Z,Z,Z,Z,Z,Z,Z,Z,Z,Z,Z,Z] (by kernel_rfl) rfl rfl ⟨(blk_cell BK136.out 0).trans rfl, (blk_cell BK136.out 1).trans rfl⟩ (fun hHeld => ?_); refine with_tabW impl_IsBody.tab6 impl_IsBody.bits6 (fun HT_ HW_ => ?_)
        generalize w37.drew = w38 at BK136 HB hHeld ⊢
        refine pq_ (i := 0) (N := some 16) #[Y,Z,Z,Z,Z,Z,Z,Z,Z,Z,Z,Z,Z,Z,Z,Z,Z,Z,Z,Z,Z,Z,Z,Z] HT_ ?_; refine tk_ (i := 1) (N := some 17) #[Y,Y,Z,Z,Z,Z,Z,Z,Z,Z,Z,Z,Z,Z,Z,Z,Z,Z,Z,Z,Z,Z,Z,Z] HT_ HW_ hHeld ?_; refine one_ (i := 2) (N := some 18) #[Y,Y,Y,Z,Z,Z,Z,Z,Z,Z,Z,Z,Z,Z,Z,Z,Z,Z,Z,Z,Z,Z,Z,Z] rfl rfl (one_of HT_.out (by kernel_rfl)) (by decide) (fun K hK => ?_); refine goes_ Try.func69 (by kernel_rfl) rfl #[.int .i64 ((rd_T49 l0 x11_1).f0), .int .i64 0, .int .i64 12] (by rfl) rfl rfl aq ?_
        with_reducible refine (impl_within.calls ((rd_T49 l0 x11_1).f0) 0 12 false _ A7.out).mono ?_
        rintro e w' ⟨rfl, ⟨nd, rfl⟩⟩
        refine ⟨_, rfl, ?_⟩; refine hK.out _ _ ⟨(blk_cell BK136.out 0).trans rfl, (blk_cell BK136.out 1).trans rfl⟩ (fun hHeld => ?_); clear hK K; refine norm_ (a' := ?_) ?_ ?_; rotate_left
        ·show Act.put _ (some 18) _ = _
         simp only [Act.put, sA, sZ, sS, i64_w, i32_w]
         rfl
        refine pq_ (i := 3) (N := some 19) #[Y,Y,Y,Y,Z,Z,Z,Z,Z,Z,Z,Z,Z,Z,Z,Z,Z,Z,Z,Z,Z,Z,Z,Z] HT_ ?_; refine pq_ (i := 4) (N := some 20) #[Y,Y,Y,Y,Y,Z,Z,Z,Z,Z,Z,Z,Z,Z,Z,Z,Z,Z,Z,Z,Z,Z,Z,Z] HT_ ?_; refine pz_ (i := 5) (N := some 21) (v := undef) #[Y,Y,Y,Y,Y,Y,Z,Z,Z,Z,Z,Z,Z,Z,Z,Z,Z,Z,Z,Z,Z,Z,Z,Z] HT_ ?_; refine pz_ (i := 6) (N := some 22) (v := undef) #[Y,Y,Y,Y,Y,Y,Y,Z,Z,Z,Z,Z,Z,Z,Z,Z,Z,Z,Z,Z,Z,Z,Z,Z] HT_ ?_; refine pz_ (i := 7) (N := some 23) (v := undef) #[Y,Y,Y,Y,Y,Y,Y,Y,Z,Z,Z,Z,Z,Z,Z,Z,Z,Z,Z,Z,Z,Z,Z,Z] HT_ ?_; refine pz_ (i := 8) (N := some 24) (v := undef) #[Y,Y,Y,Y,Y,Y,Y,Y,Y,Z,Z,Z,Z,Z,Z,Z,Z,Z,Z,Z,Z,Z,Z,Z] HT_ ?_; refine pq_ (i := 9) (N := some 25) #[Y,Y,Y,Y,Y,Y,Y,Y,Y,Y,Z,Z,Z,Z,Z,Z,Z,Z,Z,Z,Z,Z,Z,Z] HT_ ?_; refine pq_ (i := 10) (N := some 26) #[Y,Y,Y,Y,Y,Y,Y,Y,Y,Y,Y,Z,Z,Z,Z,Z,Z,Z,Z,Z,Z,Z,Z,Z] HT_ ?_; refine pz_ (i := 11) (N := some 27) (v := undef) #[Y,Y,Y,Y,Y,Y,Y,Y,Y,Y,Y,Y,Z,Z,Z,Z,Z,Z,Z,Z,Z,Z,Z,Z] HT_ ?_; refine pz_ (i := 12) (N := some 28) (v := undef) #[Y,Y,Y,Y,Y,Y,Y,Y,Y,Y,Y,Y,Y,Z,Z,Z,Z,Z,Z,Z,Z,Z,Z,Z] HT_ ?_; refine pz_ (i := 13) (N := some 29) (v := undef) #[Y,Y,Y,Y,Y,Y,Y,Y,Y,Y,Y,Y,Y,Y,Z,Z,Z,Z,Z,Z,Z,Z,Z,Z] HT_ ?_; refine pz_ (i := 14) (N := some 30) (v := undef) #[Y,Y,Y,Y,Y,Y,Y,Y,Y,Y,Y,Y,Y,Y,Y,Z,Z,Z,Z,Z,Z,Z,Z,Z] HT_ ?_; refine pz_ (i := 15) (N := some 31) (v := undef) #[Y,Y,Y,Y,Y,Y,Y,Y,Y,Y,Y,Y,Y,Y,Y,Y,Z,Z,Z,Z,Z,Z,Z,Z] HT_ ?_; refine pz_ (i := 16) (N := some 32) (v := undef) #[Y,Y,Y,Y,Y,Y,Y,Y,Y,Y,Y,Y,Y,Y,Y,Y,Y,Z,Z,Z,Z,Z,Z,Z] HT_ ?_; refine pz_ (i := 17) (N := some 33) (v := undef) #[Y,Y,Y,Y,Y,Y,Y,Y,Y,Y,Y,Y,Y,Y,Y,Y,Y,Y,Z,Z,Z,Z,Z,Z] HT_ ?_; refine pz_ (i := 18) (N := some 34) (v := undef) #[Y,Y,Y,Y,Y,Y,Y,Y,Y,Y,Y,Y,Y,Y,Y,Y,Y,Y,Y,Z,Z,Z,Z,Z] HT_ ?_; refine pz_ (i := 19) (N := some 35) (v := undef) #[Y,Y,Y,Y,Y,Y,Y,Y,Y,Y,Y,Y,Y,Y,Y,Y,Y,Y,Y,Y,Z,Z,Z,Z] HT_ ?_; refine pz_ (i := 20) (N := some 36) (v := undef) #[Y,Y,Y,Y,Y,Y,Y,Y,Y,Y,Y,Y,Y,Y,Y,Y,Y,Y,Y,Y,Y,Z,Z,Z] HT_ ?_; refine pz_ (i := 21) (N := some 37) (v := undef) #[Y,Y,Y,Y,Y,Y,Y,Y,Y,Y,Y,Y,Y,Y,Y,Y,Y,Y,Y,Y,Y,Y,Z,Z] HT_ ?_; refine pz_ (i := 22) (N := some 38) (v := undef) #[Y,Y,Y,Y,Y,Y,Y,Y,Y,Y,Y,Y,Y,Y,Y,Y,Y,Y,Y,Y,Y,Y,Y,Z] HT_ ?_; refine pq_ (i := 23) (N := some 39) #[Y,Y,Y,Y,Y,Y,Y,Y,Y,Y,Y,Y,Y,Y,Y,Y,Y,Y,Y,Y,Y,Y,Y,Y] HT_ ?_; refine done_ (done_of HT_.out (by kernel_rfl)) ?_; (try go_wp2); go_ret; exact ⟨eq_, bs⟩
      ·rw [if_neg c6] at H
       exact absurd H (by simp)
     ·rw [if_neg c5] at H
      exact absurd H (by simp)
    ·rw [if_neg c4] at H
     have c4b0 := decide_eq_false c4; clear c4; obtain ⟨⟨t132, t133⟩, A390, H⟩ := Option.bind_eq_some_iff.mp H
     (try dsimp only at H)
     have A39 := ak A390; clear A390
     by_cases c40 : (t132 == 0 && (t133 == 0)) = true
     ·rw [if_pos c40] at H
      have c40b0 : (t132 == 0 && (t133 == 0)) = true := c40
      (try (have c40b1 : decide (t132 = 0 && (t133 == 0)) = true := by simpa using c40))
      (try (have c40b2 : (t132 == 0 && (t133 == 0)) = true := by simpa using c40))
      clear c40; obtain ⟨t134, A410, H⟩ := Option.bind_eq_some_iff.mp H
      (try dsimp only at H)
      have A41 := ak A410; clear A410; obtain rfl := Option.some.inj H
      go_wp2_with (first | ((with_reducible refine gate_callee (f := 96) rfl ?_); refine goesL_ (some 42) rfl rfl Try.func96 (by kernel_rfl) rfl #[.slice A0 l0.length c0] rfl aq ?_; (with_reducible refine (impl_leastOf.calls k1 _ _ l0 t132 t133 _ ?side1 ?side2 A39.out).mono ?_); (case side1 => exact cq (Kd.C_below HR0.out HB.out)); (case side2 => exact HC0.out); rintro e w42 ⟨rfl, hb⟩; refine ⟨_, rfl, ?_⟩; have n0_ := ak (below_step bq hb); clear HB; have HB := n0_; clear n0_; (try clear hb); (try clear hb2); (try clear hk); (try clear hi)) | (go_at_call 97; (with_reducible refine (impl_hangs.calls k1 _ _ l0 t134 _ ?side1 ?side2 A41.out).mono ?_); (case side1 => exact cq (Kd.C_below HR0.out HB.out)); (case side2 => exact HC0.out); rintro e w43 ⟨rfl, hb⟩; have n0_ := ak (below_step bq hb); clear HB; have HB := n0_; clear n0_; (try clear hb); (try clear hb2); (try clear hk); (try clear hi)))
      go_ret; exact ⟨eq_, bq⟩
     ·rw [if_neg c40] at H
      have c40b0 : (t132 == 0 && (t133 == 0)) = false := by simpa using c40
      (try (have c40b1 : decide (t132 = 0 && (t133 == 0)) = false := by simpa using c40))
      (try (have c40b2 : (t132 == 0 && (t133 == 0)) = false := by simpa using c40))
      (try (have c40b3 : ¬ (t132 = 0 && (t133 == 0)) := by simpa using c40))
      clear c40; obtain rfl := Option.some.inj H
      go_wp2_with (first | ((with_reducible refine gate_callee (f := 96) rfl ?_); refine goesL_ (some 42) rfl rfl Try.func96 (by kernel_rfl) rfl #[.slice A0 l0.length c0] rfl aq ?_; (with_reducible refine (impl_leastOf.calls k1 _ _ l0 t132 t133 _ ?side1 ?side2 A39.out).mono ?_); (case side1 => exact cq (Kd.C_below HR0.out HB.out)); (case side2 => exact HC0.out); rintro e w44 ⟨rfl, hb⟩; refine ⟨_, rfl, ?_⟩; have n0_ := ak (below_step bq hb); clear HB; have HB := n0_; clear n0_; (try clear hb); (try clear hb2); (try clear hk); (try clear hi)))
      go_ret; exact ⟨eq_, bq⟩
 ·replace c3 := Bool.eq_false_iff.mpr c3
  subst c3; rw [if_neg (show ¬ (false = true) by decide)] at H; obtain rfl := Option.some.inj H
  go_enter Try.func34, Try.ntmps34
  go_wp2_with (first | ((with_reducible refine gate_callee (f := 69) rfl ?_); refine goesL_ (some 7) rfl rfl Try.func69 (by kernel_rfl) rfl #[.int .i64 (l0.length : Int), .int .i64 1, .int .i64 12] rfl aq ?_; (with_reducible refine (impl_within.calls (l0.length : Int) 1 12 false _ A2.out).mono ?_); rintro e w' ⟨rfl, ⟨nd, rfl⟩⟩; refine ⟨_, rfl, ?_⟩))
  go_ret; exact ⟨eq_, bq⟩

end Go.Proofs.Ytckhmeadflafaaa.XCb
