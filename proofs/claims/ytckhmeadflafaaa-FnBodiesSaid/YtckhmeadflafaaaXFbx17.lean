/- Functions of the program as plain Lean functions, each with the proof that the machine's call does what it says: written by a program of this session out of the translation. -/
import Derived.Test.YtckhmeadflafaaaXFbx0
import Derived.Test.YtckhmeadflafaaaXFbx2
import Derived.Test.YtckhmeadflafaaaXFbx14
import Derived.Test.YtckhmeadflafaaaXFbx15
namespace Go.Proofs.Ytckhmeadflafaaa.XFb
open Go.RowKit Go.Proofs.YtckhmeadflafaaaW.PrintWords Go.Proofs.YtckhmeadflafaaaW.PrintLast Go.Proofs.YtckhmeadflafaaaW.PrintMore
attribute [local go_sem] max2_int min2_int max_two min_two max_three min_three max_four min_four   -- for this text's walks alone
set_option linter.unusedVariables false
set_option linter.unusedSimpArgs false

/-! ### spec_l2Gcd: function 121 -/
def spec_l2Gcd.l0 : Nat → Int → Int → Option (Int)
 | 0, _, _ => none
 | k + 1, x0, x1 => if x1 > 0 then (if x1 = 0 then (none) else (spec_l2Gcd.l0 k x1 (Int.tmod x0 x1))) else (some x0)
def spec_l2Gcd.f (k : Nat) (a0 : Int) (a1 : Int) : Option (Int) := spec_l2Gcd.l0 k a0 a1
theorem spec_l2Gcd.mono_l : ∀ k, (∀ y0 y1, LeO (spec_l2Gcd.l0 k y0 y1) (spec_l2Gcd.l0 (k + 1) y0 y1))
 | 0 => fun _ _ r h => by simp [spec_l2Gcd.l0] at h
 | k + 1 => by
  have ih0 := spec_l2Gcd.mono_l k
  ·intro y0 y1
   unfold spec_l2Gcd.l0
   repeat' first
   | (with_reducible exact ih0 _ _)
   | (with_reducible exact LeO.refl _)
   | (with_reducible exact LeO.none _)
   | (with_reducible refine LeO.ite ?_ ?_)
   | (with_reducible refine LeO.bind ?_ (fun _ => ?_))
theorem spec_l2Gcd.mono : ∀ a0 a1 k, LeO (spec_l2Gcd.f k a0 a1) (spec_l2Gcd.f (k + 1) a0 a1) := by
 intro a0 a1 k; have ih0 := spec_l2Gcd.mono_l k
 unfold spec_l2Gcd.f
 repeat' first
   | (with_reducible exact ih0 _ _)
   | (with_reducible exact LeO.refl _)
   | (with_reducible exact LeO.none _)
   | (with_reducible refine LeO.ite ?_ ?_)
   | (with_reducible refine LeO.bind ?_ (fun _ => ?_))
set_option maxHeartbeats 8000000 in
set_option maxRecDepth 100000 in
theorem spec_l2Gcd.calls (k : Nat) (a0 : Int) (a1 : Int) (r : Int) (w : World) (h : spec_l2Gcd.f k a0 a1 = some r) :
  Calls Try.prog 121 #[.int .i64 a0, .int .i64 a1] w fun e w' => e = .returned (.int .i64 r) ∧ Drawn0 w w' := by
 have H : (spec_l2Gcd.l0 k a0 a1) = some r := h; clear h; have H' := ak H; clear H
 go_enter Try.func121, Try.ntmps121
 go_wp2
 repeat (go_quiet (fail); try go_wp2)
 go_loopg [0, 1] k (fun kq v0 v1 w' => ∃ (x0_1 : Int) (x1_1 : Int), v0 = .int .i64 x0_1 ∧ v1 = .int .i64 x1_1 ∧ Aside0 (spec_l2Gcd.l0 kq x0_1 x1_1 = some r) ∧ Aside0 (kq ≤ k) ∧ Drawn0 w w')
 case atStart => exact ⟨(a0), (a1), sq, sq, H', ⟨Nat.le_refl _⟩, by repeat (exact Drawn0.refl _)⟩
 case round =>
  clear H'; obtain ⟨x0_1, x1_1, rfl, rfl, HA, HK1, ⟨m1, rfl⟩⟩ := hrel
  cases gk with
  | zero => exact absurd HA.out (by simp [spec_l2Gcd.l0])
  | succ k1 =>
   have H := HA.out; clear HA; simp only [spec_l2Gcd.l0] at H
   by_cases c3 : x1_1 > 0
   ·rw [if_pos c3] at H
    have c3b0 : decide (0 < x1_1) = true := decide_eq_true c3; clear c3
    by_cases c4 : x1_1 = 0
    ·rw [if_pos c4] at H
     exact absurd H (by simp)
    ·rw [if_neg c4] at H
     have c4b0 : (x1_1 == 0) = false := beq_eq_false_iff_ne.mpr c4; have c4b1 : (x1_1 != 0) = true := bne_iff_ne.mpr c4; have H' := ak H; clear H; go_wp2
     repeat (go_quiet (fail); try go_wp2)
     go_roundg k1
     case measure => have := HK1.out; omega
     case rel => exact ⟨(x1_1), (Int.tmod x0_1 x1_1), sq, sq, H', ⟨by have := HK1.out; omega⟩, by repeat (first | exact Drawn0.refl _ | apply Drawn0.step)⟩
   ·rw [if_neg c3] at H
    have c3b0 : decide (0 < x1_1) = false := decide_eq_false c3; clear c3; obtain rfl := Option.some.inj H; go_wp2
    repeat (go_quiet (fail); try go_wp2)
    go_ret; exact ⟨sq, by repeat (first | exact Drawn0.refl _ | apply Drawn0.step)⟩

/-! ### spec_l2Cut: function 99 -/
def spec_l2Cut.f (k : Nat) (a0 : Int) (a1 : Int) : Option (Int × Int) := (spec_l1Most.f a0 (wrap64 (-a0))).bind fun t356 => ((spec_l2Gcd.f k t356 a1).bind fun t357 => (if t357 = 0 then (none) else (some (wrap64 (Int.tdiv a0 t357), wrap64 (Int.tdiv a1 t357)))))
theorem spec_l2Cut.mono : ∀ a0 a1 k, LeO (spec_l2Cut.f k a0 a1) (spec_l2Cut.f (k + 1) a0 a1) := by
 intro a0 a1 k
 unfold spec_l2Cut.f
 repeat' first
   | (with_reducible exact spec_l2Gcd.mono _ _ _)
   | (with_reducible exact LeO.refl _)
   | (with_reducible exact LeO.none _)
   | (with_reducible refine LeO.ite ?_ ?_)
   | (with_reducible refine LeO.bind ?_ (fun _ => ?_))
def spec_l2Cut.T2 : Bool × List (List Nat × List Nat) := (true, [([], []), ([], []), ([0, 1], [0, 1]), ([], []), ([], []), ([3, 4], [3, 4]), ([2, 5], [2, 5]), ([6, 0, 1, 2, 3, 4, 5, 6], [6])])
def spec_l2Cut.B2 : List Nat := [0, 0, 3, 0, 0, 24, 63, 127]
theorem spec_l2Cut.tab2 : rtab .any (opsOf Try.f99 2) = spec_l2Cut.T2 := by kernel_rfl
theorem spec_l2Cut.bits2 : waitsOk spec_l2Cut.T2.2 spec_l2Cut.B2 = true := by kernel_rfl
set_option maxHeartbeats 8000000 in
set_option maxRecDepth 100000 in
theorem spec_l2Cut.calls (k : Nat) (a0 : Int) (a1 : Int) (r1 : Int) (r2 : Int) (w : World) (h : spec_l2Cut.f k a0 a1 = some (r1, r2)) :
  Calls Try.prog 99 #[.int .i64 a0, .int .i64 a1] w fun e w' => e = .returned (.agg #[.int .i64 r1, .int .i64 r2]) ∧ Below w.heap.size w w' := by
 have hu49 := Try.underlying49; have HB := ak (Below.refl w.heap.size w); have H : ((spec_l1Most.f a0 (wrap64 (-a0))).bind fun t356 => ((spec_l2Gcd.f k t356 a1).bind fun t357 => (if t357 = 0 then (none) else (some (wrap64 (Int.tdiv a0 t357), wrap64 (Int.tdiv a1 t357)))))) = some (r1, r2) := h; clear h; obtain ⟨t356, A30, H⟩ := Option.bind_eq_some_iff.mp H
 have A3 := ak A30; clear A30; obtain ⟨t357, A40, H⟩ := Option.bind_eq_some_iff.mp H
 have A4 := ak A40; clear A40
 by_cases c5 : t357 = 0
 ·rw [if_pos c5] at H
  exact absurd H (by simp)
 ·rw [if_neg c5] at H
  have c5b0 : (t357 == 0) = false := beq_eq_false_iff_ne.mpr c5; have c5b1 : (t357 != 0) = true := bne_iff_ne.mpr c5; simp only [Option.some.injEq, Prod.mk.injEq] at H; obtain ⟨rfl, rfl⟩ := H
  go_enter Try.func99, Try.ntmps99
  try go_wp2_with (first | ((with_reducible refine gate_dst (N := 4) rfl ?_); refine box_event ?hg (N := 4) ?hd (cs := #[.int .i64 0, .int .i64 0]) (t := 49) ?hr ?_; (case hd => rfl); (case hg => rfl); (case hr => (go_simp; done)); intro gb355 hg w6 hbox hb; have n0_ := ak (below_step bq hb); have n1_ := ak (hbox); have n2_ := ak ((by rw [hg]; exact (below_size bq) : w.heap.size ≤ gb355)); have n3_ := ak ((by rw [hg]; exact (below_size bq) : w.heap.size ≤ gb355)); clear HB; have HB := n0_; have BK355 := n1_; have GW355 := n2_; have GE355 := n3_; clear n0_ n1_ n2_ n3_; clear hb hbox hg) | ((with_reducible refine gate_callee (f := 64) rfl ?_); refine goesL_ (some 9) rfl rfl Try.func64 (by kernel_rfl) rfl #[.int .i64 a0, .int .i64 (wrap64 (-a0))] rfl aq ?_; (with_reducible refine (spec_l1Most.calls a0 (wrap64 (-a0)) t356 _ A3.out).mono ?_); rintro e w' ⟨rfl, ⟨nd, rfl⟩⟩; refine ⟨_, rfl, ?_⟩; (try (rw [drewN_self w6]; generalize hq_ : World.drewN w6 _ = w6; have n0_ : Aside0 (w6.heap[gb355]? = some (.cells #[.int .i64 0, .int .i64 0] 49 (0, 0))) := ⟨by rw [← hq_]; exact (uq BK355)⟩; have n1_ : Aside0 (Below w.heap.size w w6) := ⟨by rw [← hq_]; exact bs⟩; clear BK355 HB hq_; have BK355 := n0_; have HB := n1_; clear n0_ n1_))) | ((with_reducible refine gate_callee (f := 121) rfl ?_); refine goesL_ (some 11) rfl rfl Try.func121 (by kernel_rfl) rfl #[.int .i64 t356, .int .i64 a1] rfl aq ?_; (with_reducible refine (spec_l2Gcd.calls k t356 a1 t357 _ A4.out).mono ?_); rintro e w' ⟨rfl, ⟨nd, rfl⟩⟩; refine ⟨_, rfl, ?_⟩; (try (rw [drewN_self w6]; generalize hq_ : World.drewN w6 _ = w6; have n0_ : Aside0 (w6.heap[gb355]? = some (.cells #[.int .i64 0, .int .i64 0] 49 (0, 0))) := ⟨by rw [← hq_]; exact (uq BK355)⟩; have n1_ : Aside0 (Below w.heap.size w w6) := ⟨by rw [← hq_]; exact bs⟩; clear BK355 HB hq_; have BK355 := n0_; have HB := n1_; clear n0_ n1_))))
  have n0_ := ak (blk_drew BK355.out); have n1_ := ak (below_drew1 HB.out); clear BK355; clear HB; have BK355 := n0_; have HB := n1_; clear n0_ n1_; refine start_ (n := 8) (S := fun w' => True) (ds := []) #[Z,Z,Z,Z,Z,Z,Z,Z] (by kernel_rfl) rfl rfl trivial (fun hHeld => ?_); refine with_tabW spec_l2Cut.tab2 spec_l2Cut.bits2 (fun HT_ HW_ => ?_)
  generalize w6.drew = w7 at BK355 HB hHeld ⊢
  refine pq_ (i := 0) (N := some 12) #[Y,Z,Z,Z,Z,Z,Z,Z] HT_ ?_; refine pq_ (i := 1) (N := some 13) #[Y,Y,Z,Z,Z,Z,Z,Z] HT_ ?_; refine pq_ (i := 2) (N := some 14) #[Y,Y,Y,Z,Z,Z,Z,Z] HT_ ?_; refine pq_ (i := 3) (N := some 15) #[Y,Y,Y,Y,Z,Z,Z,Z] HT_ ?_; refine pq_ (i := 4) (N := some 16) #[Y,Y,Y,Y,Y,Z,Z,Z] HT_ ?_; refine pq_ (i := 5) (N := some 17) #[Y,Y,Y,Y,Y,Y,Z,Z] HT_ ?_; refine pq_ (i := 6) (N := some 18) #[Y,Y,Y,Y,Y,Y,Y,Z] HT_ ?_; refine one_ (i := 7) (N := none) #[Y,Y,Y,Y,Y,Y,Y,Y] rfl rfl (one_of HT_.out (by kernel_rfl)) (by decide) (fun K hK => ?_); have hs8 : w7.cell? ⟨gb355, 0, none⟩ = some (.int .i64 0) := (blk_cell BK355.out 0).trans rfl; have hfs8 := blk_frozen BK355.out 0; have hs9 : w7.cell? ⟨gb355, 1, none⟩ = some (.int .i64 0) := (blk_cell BK355.out 1).trans rfl; have hfs9 := blk_frozen BK355.out 1; refine skip_ (w1 := ?_) (by rfl) rfl ?_ ?_; rotate_left
  ·go_simp
   rfl
  refine hK.out _ _ trivial (fun hHeld => ?_); clear hK K; refine done_ (done_of HT_.out (by kernel_rfl)) ?_; (try go_wp2); refine bodyPost_ret (results_cell_row rfl _ _ gb355 49 #[.int .i64 (wrap64 (Int.tdiv a0 t357)), .int .i64 (wrap64 (Int.tdiv a1 t357))] (0, 0) _ rfl (by refine blk_put (cs := #[.int .i64 (wrap64 (Int.tdiv a0 t357)), .int .i64 0]) ?_ 1 _ rfl; refine blk_put (cs := #[.int .i64 0, .int .i64 0]) ?_ 0 _ rfl; exact BK355.out) Try.underlying49 rfl (by kernel_rfl)) rfl ?_; exact ⟨eq_, bs⟩

/-! ### spec_l8Middle_1: function 67 -/
def spec_l8Middle_1.l0 : Nat → List (S49) → Int → Int → Option (Int)
 | 0, _, _, _ => none
 | k + 1, x0, x5, x6 => if x6 < (x0.length : Int) then (if 0 ≤ x6 then (spec_l8Middle_1.l0 k x0 (wrap64 ((wrap64 (x5 + (wrap64 (2 * ((rd_T49 x0 x6).f1))))) + 1)) (wrap64 (x6 + 1))) else (none)) else (some x5)
def spec_l8Middle_1.f (k : Nat) (l0 : List (S49)) : Option (Int) := spec_l8Middle_1.l0 k l0 0 0
theorem spec_l8Middle_1.mono_l : ∀ k, (∀ y0 y1 y2, LeO (spec_l8Middle_1.l0 k y0 y1 y2) (spec_l8Middle_1.l0 (k + 1) y0 y1 y2))
 | 0 => fun _ _ _ r h => by simp [spec_l8Middle_1.l0] at h
 | k + 1 => by
  have ih0 := spec_l8Middle_1.mono_l k
  ·intro y0 y1 y2
   unfold spec_l8Middle_1.l0
   repeat' first
   | (with_reducible exact ih0 _ _ _)
   | (with_reducible exact LeO.refl _)
   | (with_reducible exact LeO.none _)
   | (with_reducible refine LeO.ite ?_ ?_)
   | (with_reducible refine LeO.bind ?_ (fun _ => ?_))
theorem spec_l8Middle_1.mono : ∀ a0 k, LeO (spec_l8Middle_1.f k a0) (spec_l8Middle_1.f (k + 1) a0) := by
 intro a0 k; have ih0 := spec_l8Middle_1.mono_l k
 unfold spec_l8Middle_1.f
 repeat' first
   | (with_reducible exact ih0 _ _ _)
   | (with_reducible exact LeO.refl _)
   | (with_reducible exact LeO.none _)
   | (with_reducible refine LeO.ite ?_ ?_)
   | (with_reducible refine LeO.bind ?_ (fun _ => ?_))
set_option maxHeartbeats 8000000 in
set_option maxRecDepth 100000 in
theorem spec_l8Middle_1.calls (k : Nat) (A0 : Option Addr) (c0 : Nat) (l0 : List (S49)) (r : Int) (w : World) (hr0 : Kd.C k49 w A0 l0.length l0) (hc0 : l0.length ≤ c0) (h : spec_l8Middle_1.f k l0 = some r) :
  Calls Try.prog 67 #[.slice A0 l0.length c0, .int .i64 1] w fun e w' => e = .returned (.int .i64 r) ∧ Drawn0 w w' := by
 have HR0 := ak hr0; have HC0 := ak hc0; clear hr0 hc0; have H : (spec_l8Middle_1.l0 k l0 0 0) = some r := h; clear h; have H' := ak H; clear H
 go_enter Try.func67, Try.ntmps67
 go_wp2
 go_loopg [5, 6] k (fun kq v5 v6 w' => ∃ (x5_1 : Int) (x6_1 : Int), v5 = .int .i64 x5_1 ∧ v6 = .int .i64 x6_1 ∧ Aside0 (spec_l8Middle_1.l0 kq l0 x5_1 x6_1 = some r) ∧ Aside0 (kq ≤ k) ∧ Drawn0 w w')
 case atStart => exact ⟨(0), (0), sq, sq, H', ⟨Nat.le_refl _⟩, by repeat (exact Drawn0.refl _)⟩
 case round =>
  clear H'; obtain ⟨x5_1, x6_1, rfl, rfl, HA, HK1, ⟨m1, rfl⟩⟩ := hrel
  cases gk with
  | zero => exact absurd HA.out (by simp [spec_l8Middle_1.l0])
  | succ k1 =>
   have H := HA.out; clear HA; simp only [spec_l8Middle_1.l0] at H
   by_cases c2 : x6_1 < (l0.length : Int)
   ·rw [if_pos c2] at H
    have c2b0 := decide_eq_true c2; clear c2
    by_cases c3 : 0 ≤ x6_1
    ·rw [if_pos c3] at H
     have c3b0 := decide_eq_true c3; clear c3; have H' := ak H; clear H; have p358 : 0 ≤ (x6_1 : Int) := dq; have q358 : x6_1 < (l0.length : Int) := dq; obtain ⟨ad358, e358, hx358_0, hx358_1⟩ := at_T49 HR0.out x6_1 p358 q358; cases e358; replace p358 := eq_true p358; replace q358 := eq_true q358; go_wp2; go_roundg k1
     case measure => have := HK1.out; omega
     case rel => exact ⟨(wrap64 ((wrap64 (x5_1 + (wrap64 (2 * ((rd_T49 l0 x6_1).f1))))) + 1)), (wrap64 (x6_1 + 1)), sq, sq, H', ⟨by have := HK1.out; omega⟩, by repeat (first | exact Drawn0.refl _ | apply Drawn0.step)⟩
    ·rw [if_neg c3] at H
     exact absurd H (by simp)
   ·rw [if_neg c2] at H
    have c2b0 := decide_eq_false c2; clear c2; obtain rfl := Option.some.inj H; go_wp2; go_ret; exact ⟨sq, by repeat (first | exact Drawn0.refl _ | apply Drawn0.step)⟩

/-! ### spec_BodyCentre: function 40 -/
def spec_BodyCentre.f (k : Nat) (l0 : List (S49)) : Option (Int × Int × Int × Int × Bool) := (spec_l8Body.f k l0).bind fun t361 => (if t361 = true then ((spec_l8Middle_0.f k l0).bind fun t362 => ((spec_l2Cut.f k t362 (wrap64 (2 * (l0.length : Int)))).bind fun bt363 => ((spec_l8Middle_1.f k l0).bind fun t365 => ((spec_l2Cut.f k t365 (wrap64 (2 * (l0.length : Int)))).bind fun bt366 => (some (bt363.1, bt363.2, bt366.1, bt366.2, true)))))) else (some (0, 0, 0, 0, false)))
theorem spec_BodyCentre.mono : ∀ a0 k, LeO (spec_BodyCentre.f k a0) (spec_BodyCentre.f (k + 1) a0) := by
 intro a0 k
 unfold spec_BodyCentre.f
 repeat' first
   | (with_reducible exact spec_l2Cut.mono _ _ _)
   | (with_reducible exact spec_l8Body.mono _ _)
   | (with_reducible exact spec_l8Middle_0.mono _ _)
   | (with_reducible exact spec_l8Middle_1.mono _ _)
   | (with_reducible exact LeO.refl _)
   | (with_reducible exact LeO.none _)
   | (with_reducible refine LeO.ite ?_ ?_)
   | (with_reducible refine LeO.bind ?_ (fun _ => ?_))
set_option maxHeartbeats 8000000 in
set_option maxRecDepth 100000 in
theorem spec_BodyCentre.calls (k : Nat) (A0 : Option Addr) (c0 : Nat) (l0 : List (S49)) (r1 : Int) (r2 : Int) (r3 : Int) (r4 : Int) (r5 : Bool) (w : World) (hr0 : Kd.C k49 w A0 l0.length l0) (hc0 : l0.length ≤ c0) (h : spec_BodyCentre.f k l0 = some (r1, r2, r3, r4, r5)) :
  Calls Try.prog 40 #[.slice A0 l0.length c0] w fun e w' => e = .returned (.tuple #[.agg #[.int .i64 r1, .int .i64 r2], .agg #[.int .i64 r3, .int .i64 r4], .bool r5]) ∧ Below w.heap.size w w' := by
 have hu49 := Try.underlying49; have HR0 := ak hr0; have HC0 := ak hc0; clear hr0 hc0; have HB := ak (Below.refl w.heap.size w); have H := h; clear h
 unfold spec_BodyCentre.f at H
 obtain ⟨t361, A20, H⟩ := Option.bind_eq_some_iff.mp H
 have A2 := ak A20; clear A20
 by_cases c3 : t361 = true
 ·subst c3
  rw [if_pos rfl] at H; obtain ⟨t362, A40, H⟩ := Option.bind_eq_some_iff.mp H
  have A4 := ak A40; clear A40; obtain ⟨⟨t363, t364⟩, A50, H⟩ := Option.bind_eq_some_iff.mp H
  (try dsimp only at H)
  have A5 := ak A50; clear A50; obtain ⟨t365, A60, H⟩ := Option.bind_eq_some_iff.mp H
  have A6 := ak A60; clear A60; obtain ⟨⟨t366, t367⟩, A70, H⟩ := Option.bind_eq_some_iff.mp H
  (try dsimp only at H)
  have A7 := ak A70; clear A70; simp only [Option.some.injEq, Prod.mk.injEq] at H; obtain ⟨rfl, rfl, rfl, rfl, rfl⟩ := H
  go_enter Try.func40, Try.ntmps40
  go_wp2_with (first | ((with_reducible refine gate_dst (N := 2) rfl ?_); refine box_event ?hg (N := 2) ?hd (cs := #[.int .i64 0, .int .i64 0]) (t := 49) ?hr ?_; (case hd => rfl); (case hg => rfl); (case hr => (go_simp; done)); intro gb359 hg w8 hbox hb; have n0_ := ak (below_step bq hb); have n1_ := ak (hbox); have n2_ := ak ((by rw [hg]; exact (below_size bq) : w.heap.size ≤ gb359)); have n3_ := ak ((by rw [hg]; exact (below_size bq) : w.heap.size ≤ gb359)); clear HB; have HB := n0_; have BK359 := n1_; have GW359 := n2_; have GE359 := n3_; clear n0_ n1_ n2_ n3_; clear hb hbox hg) | ((with_reducible refine gate_dst (N := 3) rfl ?_); refine box_event ?hg (N := 3) ?hd (cs := #[.int .i64 0, .int .i64 0]) (t := 49) ?hr ?_; (case hd => rfl); (case hg => rfl); (case hr => (go_simp; done)); intro gb360 hg w9 hbox hb; have n0_ := ak (blk_below (g := gb359) (o := .cells #[.int .i64 0, .int .i64 0] 49 (0, 0)) (uq BK359) hb); have n1_ := ak (below_step bs hb); have n2_ := ak (hbox); have n3_ := ak ((by rw [hg]; exact (below_size bs) : w.heap.size ≤ gb360)); have n4_ := ak ((by rw [hg]; exact (below_size bs) : w.heap.size ≤ gb360)); have n5_ := ak ((by rw [hg]; exact Nat.ne_of_lt (blk_lt (g := gb359) (o := .cells #[.int .i64 0, .int .i64 0] 49 (0, 0)) (uq BK359)) : gb359 ≠ gb360)); have n6_ := ak ((by rw [hg]; exact Nat.ne_of_gt (blk_lt (g := gb359) (o := .cells #[.int .i64 0, .int .i64 0] 49 (0, 0)) (uq BK359)) : gb360 ≠ gb359)); clear BK359; clear HB; have BK359 := n0_; have HB := n1_; have BK360 := n2_; have GW360 := n3_; have GE360 := n4_; have NB359_360 := n5_; have NB360_359 := n6_; clear n0_ n1_ n2_ n3_ n4_ n5_ n6_; clear hb hbox hg) | ((with_reducible refine gate_callee (f := 55) rfl ?_); refine goesL_ (some 6) rfl rfl Try.func55 (by kernel_rfl) rfl #[.slice A0 l0.length c0] rfl aq ?_; (with_reducible refine (spec_l8Body.calls k _ _ l0 true _ ?side1 ?side2 A2.out).mono ?_); (case side1 => exact cq (Kd.C_below HR0.out HB.out)); (case side2 => exact HC0.out); rintro e w10 ⟨rfl, hb⟩; refine ⟨_, rfl, ?_⟩; have n0_ := ak (blk_below (g := gb359) (o := .cells #[.int .i64 0, .int .i64 0] 49 (0, 0)) (uq BK359) hb); have n1_ := ak (blk_below (g := gb360) (o := .cells #[.int .i64 0, .int .i64 0] 49 (0, 0)) (uq BK360) hb); have n2_ := ak (below_step bs hb); clear BK359; clear BK360; clear HB; have BK359 := n0_; have BK360 := n1_; have HB := n2_; clear n0_ n1_ n2_; (try clear hb)) | ((with_reducible refine gate_callee (f := 67) rfl ?_); refine goesL_ (some 11) rfl rfl Try.func67 (by kernel_rfl) rfl #[.slice A0 l0.length c0, .int .i64 0] rfl aq ?_; (with_reducible refine (spec_l8Middle_0.calls k _ _ l0 t362 _ ?side1 ?side2 A4.out).mono ?_); (case side1 => exact cq (Kd.C_below HR0.out HB.out)); (case side2 => exact HC0.out); rintro e w' ⟨rfl, ⟨nd, rfl⟩⟩; refine ⟨_, rfl, ?_⟩; (try (rw [drewN_self w10]; generalize hq_ : World.drewN w10 _ = w10; have n0_ : Aside0 (w10.heap[gb359]? = some (.cells #[.int .i64 0, .int .i64 0] 49 (0, 0))) := ⟨by rw [← hq_]; exact (uq BK359)⟩; have n1_ : Aside0 (w10.heap[gb360]? = some (.cells #[.int .i64 0, .int .i64 0] 49 (0, 0))) := ⟨by rw [← hq_]; exact (uq BK360)⟩; have n2_ : Aside0 (Below w.heap.size w w10) := ⟨by rw [← hq_]; exact bs⟩; clear BK359 BK360 HB hq_; have BK359 := n0_; have BK360 := n1_; have HB := n2_; clear n0_ n1_ n2_))) | ((with_reducible refine gate_callee (f := 99) rfl ?_); refine goesL_ (some 15) rfl rfl Try.func99 (by kernel_rfl) rfl #[.int .i64 t362, .int .i64 (wrap64 (2 * (l0.length : Int)))] rfl aq ?_; (with_reducible refine (spec_l2Cut.calls k t362 (wrap64 (2 * (l0.length : Int))) t363 t364 _ A5.out).mono ?_); rintro e w11 ⟨rfl, hb⟩; refine ⟨_, rfl, ?_⟩; have n0_ := ak (blk_below (g := gb359) (o := .cells #[.int .i64 0, .int .i64 0] 49 (0, 0)) (uq BK359) hb); have n1_ := ak (blk_below (g := gb360) (o := .cells #[.int .i64 0, .int .i64 0] 49 (0, 0)) (uq BK360) hb); have n2_ := ak (below_step bs hb); clear BK359; clear BK360; clear HB; have BK359 := n0_; have BK360 := n1_; have HB := n2_; clear n0_ n1_ n2_; (try clear hb)) | ((with_reducible refine gate_callee (f := 67) rfl ?_); refine goesL_ (some 17) rfl rfl Try.func67 (by kernel_rfl) rfl #[.slice A0 l0.length c0, .int .i64 1] rfl aq ?_; (with_reducible refine (spec_l8Middle_1.calls k _ _ l0 t365 _ ?side1 ?side2 A6.out).mono ?_); (case side1 => exact cq (Kd.C_below HR0.out HB.out)); (case side2 => exact HC0.out); rintro e w' ⟨rfl, ⟨nd, rfl⟩⟩; refine ⟨_, rfl, ?_⟩; (try (rw [drewN_self w11]; generalize hq_ : World.drewN w11 _ = w11; have n0_ : Aside0 (w11.heap[gb359]? = some (.cells #[.int .i64 0, .int .i64 0] 49 (0, 0))) := ⟨by rw [← hq_]; exact (uq BK359)⟩; have n1_ : Aside0 (w11.heap[gb360]? = some (.cells #[.int .i64 0, .int .i64 0] 49 (0, 0))) := ⟨by rw [← hq_]; exact (uq BK360)⟩; have n2_ : Aside0 (Below w.heap.size w w11) := ⟨by rw [← hq_]; exact bs⟩; clear BK359 BK360 HB hq_; have BK359 := n0_; have BK360 := n1_; have HB := n2_; clear n0_ n1_ n2_))) | ((with_reducible refine gate_callee (f := 99) rfl ?_); refine goesL_ (some 21) rfl rfl Try.func99 (by kernel_rfl) rfl #[.int .i64 t365, .int .i64 (wrap64 (2 * (l0.length : Int)))] rfl aq ?_; (with_reducible refine (spec_l2Cut.calls k t365 (wrap64 (2 * (l0.length : Int))) t366 t367 _ A7.out).mono ?_); rintro e w12 ⟨rfl, hb⟩; refine ⟨_, rfl, ?_⟩; have n0_ := ak (blk_below (g := gb359) (o := .cells #[.int .i64 0, .int .i64 0] 49 (0, 0)) (uq BK359) hb); have n1_ := ak (blk_below (g := gb360) (o := .cells #[.int .i64 0, .int .i64 0] 49 (0, 0)) (uq BK360) hb); have n2_ := ak (below_step bs hb); clear BK359; clear BK360; clear HB; have BK359 := n0_; have BK360 := n1_; have HB := n2_; clear n0_ n1_ n2_; (try clear hb); have hnb13 := NB359_360.out; have hnc13 := NB360_359.out; have hcz14_0 : w12.cell? ⟨gb359, 0, none⟩ = some (.int .i64 0) := (blk_cell BK359.out 0).trans rfl; have hcz14_1 : w12.cell? ⟨gb359, 1, none⟩ = some (.int .i64 0) := (blk_cell BK359.out 1).trans rfl; have hfz14_0 := blk_frozen BK359.out 0; have hfz14_1 := blk_frozen BK359.out 1; have hcz15_0 : w12.cell? ⟨gb360, 0, none⟩ = some (.int .i64 0) := (blk_cell BK360.out 0).trans rfl; have hcz15_1 : w12.cell? ⟨gb360, 1, none⟩ = some (.int .i64 0) := (blk_cell BK360.out 1).trans rfl; have hfz15_0 := blk_frozen BK360.out 0; have hfz15_1 := blk_frozen BK360.out 1))
  refine bodyPost_ret (results_list (rs := [.cell 2 49, .cell 3 49, .tmp 4]) rfl (by simp) (.cell gb359 49 #[.int .i64 t363, .int .i64 t364] (0, 0) _ rfl (by refine blk_far ?_ NB359_360.out _; refine blk_far ?_ NB359_360.out _; refine blk_put (cs := #[.int .i64 t363, .int .i64 0]) ?_ 1 _ rfl; refine blk_put (cs := #[.int .i64 0, .int .i64 0]) ?_ 0 _ rfl; exact BK359.out) Try.underlying49 rfl (by kernel_rfl) (.cell gb360 49 #[.int .i64 t366, .int .i64 t367] (0, 0) _ rfl (by refine blk_put (cs := #[.int .i64 t366, .int .i64 0]) ?_ 1 _ rfl; refine blk_put (cs := #[.int .i64 0, .int .i64 0]) ?_ 0 _ rfl; refine blk_far ?_ NB360_359.out _; refine blk_far ?_ NB360_359.out _; exact BK360.out) Try.underlying49 rfl (by kernel_rfl) (.tmp .nil)))) rfl ?_; exact ⟨eq_, bs⟩
 ·replace c3 := Bool.eq_false_iff.mpr c3
  subst c3; rw [if_neg (show ¬ (false = true) by decide)] at H; simp only [Option.some.injEq, Prod.mk.injEq] at H; obtain ⟨rfl, rfl, rfl, rfl, rfl⟩ := H
  go_enter Try.func40, Try.ntmps40
  go_wp2_with (first | ((with_reducible refine gate_dst (N := 2) rfl ?_); refine box_event ?hg (N := 2) ?hd (cs := #[.int .i64 0, .int .i64 0]) (t := 49) ?hr ?_; (case hd => rfl); (case hg => rfl); (case hr => (go_simp; done)); intro gb359 hg w16 hbox hb; have n0_ := ak (below_step bq hb); have n1_ := ak (hbox); have n2_ := ak ((by rw [hg]; exact (below_size bq) : w.heap.size ≤ gb359)); have n3_ := ak ((by rw [hg]; exact (below_size bq) : w.heap.size ≤ gb359)); clear HB; have HB := n0_; have BK359 := n1_; have GW359 := n2_; have GE359 := n3_; clear n0_ n1_ n2_ n3_; clear hb hbox hg) | ((with_reducible refine gate_dst (N := 3) rfl ?_); refine box_event ?hg (N := 3) ?hd (cs := #[.int .i64 0, .int .i64 0]) (t := 49) ?hr ?_; (case hd => rfl); (case hg => rfl); (case hr => (go_simp; done)); intro gb360 hg w17 hbox hb; have n0_ := ak (blk_below (g := gb359) (o := .cells #[.int .i64 0, .int .i64 0] 49 (0, 0)) (uq BK359) hb); have n1_ := ak (below_step bs hb); have n2_ := ak (hbox); have n3_ := ak ((by rw [hg]; exact (below_size bs) : w.heap.size ≤ gb360)); have n4_ := ak ((by rw [hg]; exact (below_size bs) : w.heap.size ≤ gb360)); have n5_ := ak ((by rw [hg]; exact Nat.ne_of_lt (blk_lt (g := gb359) (o := .cells #[.int .i64 0, .int .i64 0] 49 (0, 0)) (uq BK359)) : gb359 ≠ gb360)); have n6_ := ak ((by rw [hg]; exact Nat.ne_of_gt (blk_lt (g := gb359) (o := .cells #[.int .i64 0, .int .i64 0] 49 (0, 0)) (uq BK359)) : gb360 ≠ gb359)); clear BK359; clear HB; have BK359 := n0_; have HB := n1_; have BK360 := n2_; have GW360 := n3_; have GE360 := n4_; have NB359_360 := n5_; have NB360_359 := n6_; clear n0_ n1_ n2_ n3_ n4_ n5_ n6_; clear hb hbox hg) | ((with_reducible refine gate_callee (f := 55) rfl ?_); refine goesL_ (some 6) rfl rfl Try.func55 (by kernel_rfl) rfl #[.slice A0 l0.length c0] rfl aq ?_; (with_reducible refine (spec_l8Body.calls k _ _ l0 false _ ?side1 ?side2 A2.out).mono ?_); (case side1 => exact cq (Kd.C_below HR0.out HB.out)); (case side2 => exact HC0.out); rintro e w18 ⟨rfl, hb⟩; refine ⟨_, rfl, ?_⟩; have n0_ := ak (blk_below (g := gb359) (o := .cells #[.int .i64 0, .int .i64 0] 49 (0, 0)) (uq BK359) hb); have n1_ := ak (blk_below (g := gb360) (o := .cells #[.int .i64 0, .int .i64 0] 49 (0, 0)) (uq BK360) hb); have n2_ := ak (below_step bs hb); clear BK359; clear BK360; clear HB; have BK359 := n0_; have BK360 := n1_; have HB := n2_; clear n0_ n1_ n2_; (try clear hb); have hnb19 := NB359_360.out; have hnc19 := NB360_359.out; have hcz20_0 : w18.cell? ⟨gb359, 0, none⟩ = some (.int .i64 0) := (blk_cell BK359.out 0).trans rfl; have hcz20_1 : w18.cell? ⟨gb359, 1, none⟩ = some (.int .i64 0) := (blk_cell BK359.out 1).trans rfl; have hfz20_0 := blk_frozen BK359.out 0; have hfz20_1 := blk_frozen BK359.out 1; have hcz21_0 : w18.cell? ⟨gb360, 0, none⟩ = some (.int .i64 0) := (blk_cell BK360.out 0).trans rfl; have hcz21_1 : w18.cell? ⟨gb360, 1, none⟩ = some (.int .i64 0) := (blk_cell BK360.out 1).trans rfl; have hfz21_0 := blk_frozen BK360.out 0; have hfz21_1 := blk_frozen BK360.out 1))
  refine bodyPost_ret (results_list (rs := [.cell 2 49, .cell 3 49, .tmp 4]) rfl (by simp) (.cell gb359 49 #[.int .i64 0, .int .i64 0] (0, 0) _ rfl (by refine blk_far ?_ NB359_360.out _; refine blk_far ?_ NB359_360.out _; refine blk_put (cs := #[.int .i64 0, .int .i64 0]) ?_ 1 _ rfl; refine blk_put (cs := #[.int .i64 0, .int .i64 0]) ?_ 0 _ rfl; exact BK359.out) Try.underlying49 rfl (by kernel_rfl) (.cell gb360 49 #[.int .i64 0, .int .i64 0] (0, 0) _ rfl (by refine blk_put (cs := #[.int .i64 0, .int .i64 0]) ?_ 1 _ rfl; refine blk_put (cs := #[.int .i64 0, .int .i64 0]) ?_ 0 _ rfl; refine blk_far ?_ NB360_359.out _; refine blk_far ?_ NB360_359.out _; exact BK360.out) Try.underlying49 rfl (by kernel_rfl) (.tmp .nil)))) rfl ?_; exact ⟨eq_, bs⟩

end Go.Proofs.Ytckhmeadflafaaa.XFb
