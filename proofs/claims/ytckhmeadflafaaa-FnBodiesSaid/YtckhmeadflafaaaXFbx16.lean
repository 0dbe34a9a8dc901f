/- Functions of the program as plain Lean functions, each with the proof that the machine's call does what it says: written by a program of this session out of the translation. -/
import Derived.Test.YtckhmeadflafaaaXFbx0
import Derived.Test.YtckhmeadflafaaaXFbx11
import Derived.Test.YtckhmeadflafaaaXFbx12
namespace Go.Proofs.Ytckhmeadflafaaa.XFb
open Go.RowKit Go.Proofs.YtckhmeadflafaaaW.PrintWords Go.Proofs.YtckhmeadflafaaaW.PrintLast Go.Proofs.YtckhmeadflafaaaW.PrintMore
attribute [local go_sem] max2_int min2_int max_two min_two max_three min_three max_four min_four   -- for this text's walks alone
set_option linter.unusedVariables false
set_option linter.unusedSimpArgs false

/-! ### impl_divisor: function 120 -/
def impl_divisor.l0 : Nat → Int → Int → Option (Int)
 | 0, _, _ => none
 | k + 1, x0, x1 => if x1 > 0 then (if x1 = 0 then (none) else (impl_divisor.l0 k x1 (Int.tmod x0 x1))) else (some x0)
def impl_divisor.f (k : Nat) (a0 : Int) (a1 : Int) : Option (Int) := impl_divisor.l0 k a0 a1
theorem impl_divisor.mono_l : ∀ k, (∀ y0 y1, LeO (impl_divisor.l0 k y0 y1) (impl_divisor.l0 (k + 1) y0 y1))
 | 0 => fun _ _ r h => by simp [impl_divisor.l0] at h
 | k + 1 => by
  have ih0 := impl_divisor.mono_l k
  ·intro y0 y1
   unfold impl_divisor.l0
   repeat' first
   | (with_reducible exact ih0 _ _)
   | (with_reducible exact LeO.refl _)
   | (with_reducible exact LeO.none _)
   | (with_reducible refine LeO.ite ?_ ?_)
   | (with_reducible refine LeO.bind ?_ (fun _ => ?_))
theorem impl_divisor.mono : ∀ a0 a1 k, LeO (impl_divisor.f k a0 a1) (impl_divisor.f (k + 1) a0 a1) := by
 intro a0 a1 k; have ih0 := impl_divisor.mono_l k
 unfold impl_divisor.f
 repeat' first
   | (with_reducible exact ih0 _ _)
   | (with_reducible exact LeO.refl _)
   | (with_reducible exact LeO.none _)
   | (with_reducible refine LeO.ite ?_ ?_)
   | (with_reducible refine LeO.bind ?_ (fun _ => ?_))
set_option maxHeartbeats 8000000 in
set_option maxRecDepth 100000 in
theorem impl_divisor.calls (k : Nat) (a0 : Int) (a1 : Int) (r : Int) (w : World) (h : impl_divisor.f k a0 a1 = some r) :
  Calls Try.prog 120 #[.int .i64 a0, .int .i64 a1] w fun e w' => e = .returned (.int .i64 r) ∧ Drawn0 w w' := by
 have H : (impl_divisor.l0 k a0 a1) = some r := h; clear h; have H' := ak H; clear H
 go_enter Try.func120, Try.ntmps120
 go_wp2
 repeat (go_quiet (fail); try go_wp2)
 go_loopg [0, 1] k (fun kq v0 v1 w' => ∃ (x0_1 : Int) (x1_1 : Int), v0 = .int .i64 x0_1 ∧ v1 = .int .i64 x1_1 ∧ Aside0 (impl_divisor.l0 kq x0_1 x1_1 = some r) ∧ Aside0 (kq ≤ k) ∧ Drawn0 w w')
 case atStart => exact ⟨(a0), (a1), sq, sq, H', ⟨Nat.le_refl _⟩, by repeat (exact Drawn0.refl _)⟩
 case round =>
  clear H'; obtain ⟨x0_1, x1_1, rfl, rfl, HA, HK1, ⟨m1, rfl⟩⟩ := hrel
  cases gk with
  | zero => exact absurd HA.out (by simp [impl_divisor.l0])
  | succ k1 =>
   have H := HA.out; clear HA; simp only [impl_divisor.l0] at H
   by_cases c3 : x1_1 > 0
   ·rw [if_pos c3] at H
    have c3b0 : decide (0 < x1_1) = true := decide_eq_true c3; clear c3
    by_cases c4 : x1_1 = 0
    ·rw [if_pos c4] at H
     exact absurd H (by simp)
    ·rw [if_neg c4] at H
     have c4b0 : (x1_1 == 0) = false := beq_eq_false_iff_ne.mpr c4; have c4b1 : (x1_1 != 0) = true := bne_iff_ne.mpr c4; have H' := ak H; clear H; go_wp2
     repeat (go_quiet (fail); try go_wp2)
     go_roundg k1
     case measure => have := HK1.out; omega
     case rel => exact ⟨(x1_1), (Int.tmod x0_1 x1_1), sq, sq, H', ⟨by have := HK1.out; omega⟩, by repeat (first | exact Drawn0.refl _ | apply Drawn0.step)⟩
   ·rw [if_neg c3] at H
    have c3b0 : decide (0 < x1_1) = false := decide_eq_false c3; clear c3; obtain rfl := Option.some.inj H; go_wp2
    repeat (go_quiet (fail); try go_wp2)
    go_ret; exact ⟨sq, by repeat (first | exact Drawn0.refl _ | apply Drawn0.step)⟩

/-! ### impl_fraction: function 98 -/
def impl_fraction.f (k : Nat) (a0 : Int) (a1 : Int) : Option (Int × Int) := (impl_divisor.f k (mx a0 (wrap64 (-a0))) a1).bind fun t343 => (if t343 = 0 then (none) else (some (wrap64 (Int.tdiv a0 t343), wrap64 (Int.tdiv a1 t343))))
theorem impl_fraction.mono : ∀ a0 a1 k, LeO (impl_fraction.f k a0 a1) (impl_fraction.f (k + 1) a0 a1) := by
 intro a0 a1 k
 unfold impl_fraction.f
 repeat' first
   | (with_reducible exact impl_divisor.mono _ _ _)
   | (with_reducible exact LeO.refl _)
   | (with_reducible exact LeO.none _)
   | (with_reducible refine LeO.ite ?_ ?_)
   | (with_reducible refine LeO.bind ?_ (fun _ => ?_))
def impl_fraction.T2 : Bool × List (List Nat × List Nat) := (true, [([], []), ([], []), ([0, 1], [0, 1]), ([], []), ([], []), ([3, 4], [3, 4]), ([2, 5], [2, 5]), ([6, 0, 1, 2, 3, 4, 5, 6], [6])])
def impl_fraction.B2 : List Nat := [0, 0, 3, 0, 0, 24, 63, 127]
theorem impl_fraction.tab2 : rtab .any (opsOf Try.f98 2) = impl_fraction.T2 := by kernel_rfl
theorem impl_fraction.bits2 : waitsOk impl_fraction.T2.2 impl_fraction.B2 = true := by kernel_rfl
set_option maxHeartbeats 8000000 in
set_option maxRecDepth 100000 in
theorem impl_fraction.calls (k : Nat) (a0 : Int) (a1 : Int) (r1 : Int) (r2 : Int) (w : World) (h : impl_fraction.f k a0 a1 = some (r1, r2)) :
  Calls Try.prog 98 #[.int .i64 a0, .int .i64 a1] w fun e w' => e = .returned (.agg #[.int .i64 r1, .int .i64 r2]) ∧ Below w.heap.size w w' := by
 have hu49 := Try.underlying49; have HB := ak (Below.refl w.heap.size w); have H : ((impl_divisor.f k (mx a0 (wrap64 (-a0))) a1).bind fun t343 => (if t343 = 0 then (none) else (some (wrap64 (Int.tdiv a0 t343), wrap64 (Int.tdiv a1 t343))))) = some (r1, r2) := h; clear h; obtain ⟨ji3, hji3⟩ : ∃ j_ : Int, (mx a0 (wrap64 (-a0))) = j_ := ⟨_, rfl⟩
 (rw [hji3] at H)
 have hji3_ : (if a0 < (wrap64 (-a0)) then (wrap64 (-a0)) else a0) = ji3 := hji3; obtain ⟨t343, A40, H⟩ := Option.bind_eq_some_iff.mp H
 have A4 := ak A40; clear A40
 by_cases c5 : t343 = 0
 ·rw [if_pos c5] at H
  exact absurd H (by simp)
 ·rw [if_neg c5] at H
  have c5b0 : (t343 == 0) = false := beq_eq_false_iff_ne.mpr c5; have c5b1 : (t343 != 0) = true := bne_iff_ne.mpr c5; simp only [Option.some.injEq, Prod.mk.injEq] at H; obtain ⟨rfl, rfl⟩ := H
  go_enter Try.func98, Try.ntmps98
  try go_wp2_with (first | ((with_reducible refine gate_dst (N := 4) rfl ?_); refine box_event ?hg (N := 4) ?hd (cs := #[.int .i64 0, .int .i64 0]) (t := 49) ?hr ?_; (case hd => rfl); (case hg => rfl); (case hr => (go_simp; done)); intro gb342 hg w6 hbox hb; have n0_ := ak (below_step bq hb); have n1_ := ak (hbox); have n2_ := ak ((by rw [hg]; exact (below_size bq) : w.heap.size ≤ gb342)); have n3_ := ak ((by rw [hg]; exact (below_size bq) : w.heap.size ≤ gb342)); clear HB; have HB := n0_; have BK342 := n1_; have GW342 := n2_; have GE342 := n3_; clear n0_ n1_ n2_ n3_; clear hb hbox hg) | ((with_reducible refine gate_callee (f := 120) rfl ?_); refine goesL_ (some 11) rfl rfl Try.func120 (by kernel_rfl) rfl #[.int .i64 ji3, .int .i64 a1] rfl (by (try simp only [List.map_toArray, List.map_cons, List.map_nil]); rfl) ?_; (with_reducible refine (impl_divisor.calls k ji3 a1 t343 _ A4.out).mono ?_); rintro e w' ⟨rfl, ⟨nd, rfl⟩⟩; refine ⟨_, rfl, ?_⟩; (try (rw [drewN_self w6]; generalize hq_ : World.drewN w6 _ = w6; have n0_ : Aside0 (w6.heap[gb342]? = some (.cells #[.int .i64 0, .int .i64 0] 49 (0, 0))) := ⟨by rw [← hq_]; exact (uq BK342)⟩; have n1_ : Aside0 (Below w.heap.size w w6) := ⟨by rw [← hq_]; exact bs⟩; clear BK342 HB hq_; have BK342 := n0_; have HB := n1_; clear n0_ n1_))))
  have n0_ := ak (blk_drew BK342.out); have n1_ := ak (below_drew1 HB.out); clear BK342; clear HB; have BK342 := n0_; have HB := n1_; clear n0_ n1_; refine start_ (n := 8) (S := fun w' => True) (ds := []) #[Z,Z,Z,Z,Z,Z,Z,Z] (by kernel_rfl) rfl rfl trivial (fun hHeld => ?_); refine with_tabW impl_fraction.tab2 impl_fraction.bits2 (fun HT_ HW_ => ?_)
  generalize w6.drew = w7 at BK342 HB hHeld ⊢
  refine pq_ (i := 0) (N := some 12) #[Y,Z,Z,Z,Z,Z,Z,Z] HT_ ?_; refine pq_ (i := 1) (N := some 13) #[Y,Y,Z,Z,Z,Z,Z,Z] HT_ ?_; refine pq_ (i := 2) (N := some 14) #[Y,Y,Y,Z,Z,Z,Z,Z] HT_ ?_; refine pq_ (i := 3) (N := some 15) #[Y,Y,Y,Y,Z,Z,Z,Z] HT_ ?_; refine pq_ (i := 4) (N := some 16) #[Y,Y,Y,Y,Y,Z,Z,Z] HT_ ?_; refine pq_ (i := 5) (N := some 17) #[Y,Y,Y,Y,Y,Y,Z,Z] HT_ ?_; refine pq_ (i := 6) (N := some 18) #[Y,Y,Y,Y,Y,Y,Y,Z] HT_ ?_; refine one_ (i := 7) (N := none) #[Y,Y,Y,Y,Y,Y,Y,Y] rfl rfl (one_of HT_.out (by kernel_rfl)) (by decide) (fun K hK => ?_); have hs8 : w7.cell? ⟨gb342, 0, none⟩ = some (.int .i64 0) := (blk_cell BK342.out 0).trans rfl; have hfs8 := blk_frozen BK342.out 0; have hs9 : w7.cell? ⟨gb342, 1, none⟩ = some (.int .i64 0) := (blk_cell BK342.out 1).trans rfl; have hfs9 := blk_frozen BK342.out 1; refine skip_ (w1 := ?_) (by rfl) rfl ?_ ?_; rotate_left
  ·go_simp
   rfl
  refine hK.out _ _ trivial (fun hHeld => ?_); clear hK K; refine done_ (done_of HT_.out (by kernel_rfl)) ?_; (try go_wp2); refine bodyPost_ret (results_cell_row rfl _ _ gb342 49 #[.int .i64 (wrap64 (Int.tdiv a0 t343)), .int .i64 (wrap64 (Int.tdiv a1 t343))] (0, 0) _ rfl (by refine blk_put (cs := #[.int .i64 (wrap64 (Int.tdiv a0 t343)), .int .i64 0]) ?_ 1 _ rfl; refine blk_put (cs := #[.int .i64 0, .int .i64 0]) ?_ 0 _ rfl; exact BK342.out) Try.underlying49 rfl (by kernel_rfl)) rfl ?_; exact ⟨by first | rfl | (simp [errW_none, errW_some] <;> rfl) | (fail) | (simp [*, errW_none, errW_some] <;> rfl), bs⟩

/-! ### impl_middles_1: function 73 -/
def impl_middles_1.l0 : Nat → Int → List (S49) → Int → Int → Option (Int)
 | 0, _, _, _, _ => none
 | k + 1, x5, x8, x9, x10 => if x10 < x9 then (if 0 ≤ x10 then (if x10 < (x8.length : Int) then (impl_middles_1.l0 k (wrap64 (x5 + (wrap64 ((wrap64 (2 * ((rd_T49 x8 x10).f1))) + 1)))) x8 x9 (wrap64 (x10 + 1))) else (none)) else (none)) else (some x5)
def impl_middles_1.f (k : Nat) (l0 : List (S49)) : Option (Int) := impl_middles_1.l0 k 0 l0 (l0.length : Int) 0
theorem impl_middles_1.mono_l : ∀ k, (∀ y0 y1 y2 y3, LeO (impl_middles_1.l0 k y0 y1 y2 y3) (impl_middles_1.l0 (k + 1) y0 y1 y2 y3))
 | 0 => fun _ _ _ _ r h => by simp [impl_middles_1.l0] at h
 | k + 1 => by
  have ih0 := impl_middles_1.mono_l k
  ·intro y0 y1 y2 y3
   unfold impl_middles_1.l0
   repeat' first
   | (with_reducible exact ih0 _ _ _ _)
   | (with_reducible exact LeO.refl _)
   | (with_reducible exact LeO.none _)
   | (with_reducible refine LeO.ite ?_ ?_)
   | (with_reducible refine LeO.bind ?_ (fun _ => ?_))
theorem impl_middles_1.mono : ∀ a0 k, LeO (impl_middles_1.f k a0) (impl_middles_1.f (k + 1) a0) := by
 intro a0 k; have ih0 := impl_middles_1.mono_l k
 unfold impl_middles_1.f
 repeat' first
   | (with_reducible exact ih0 _ _ _ _)
   | (with_reducible exact LeO.refl _)
   | (with_reducible exact LeO.none _)
   | (with_reducible refine LeO.ite ?_ ?_)
   | (with_reducible refine LeO.bind ?_ (fun _ => ?_))
set_option maxHeartbeats 8000000 in
set_option maxRecDepth 100000 in
theorem impl_middles_1.calls (k : Nat) (A0 : Option Addr) (c0 : Nat) (l0 : List (S49)) (r : Int) (w : World) (hr0 : Kd.C k49 w A0 l0.length l0) (hc0 : l0.length ≤ c0) (h : impl_middles_1.f k l0 = some r) :
  Calls Try.prog 73 #[.slice A0 l0.length c0, .int .i64 1] w fun e w' => e = .returned (.int .i64 r) ∧ Below w.heap.size w w' := by
 have hu49 := Try.underlying49; have HR0 := ak hr0; have HC0 := ak hc0; clear hr0 hc0; have HB := ak (Below.refl w.heap.size w); have H : (impl_middles_1.l0 k 0 l0 (l0.length : Int) 0) = some r := h; clear h; have H' := ak H; clear H
 go_enter Try.func73, Try.ntmps73
 go_wp2
 go_loopg [5, 10] k (fun kq v5 v10 w' => ∃ (x5_1 : Int) (x10_1 : Int), v5 = .int .i64 x5_1 ∧ v10 = .int .i64 x10_1 ∧ Aside0 (impl_middles_1.l0 kq x5_1 l0 (l0.length : Int) x10_1 = some r) ∧ Aside0 (kq ≤ k) ∧ Aside0 (Below w.heap.size w w'))
 case atStart => exact ⟨(0), (0), sq, sq, H', ⟨Nat.le_refl _⟩, ⟨bq⟩⟩
 case round =>
  clear H'; obtain ⟨x5_1, x10_1, rfl, rfl, HA, HK1, HB⟩ := hrel
  cases gk with
  | zero => exact absurd HA.out (by simp [impl_middles_1.l0])
  | succ k1 =>
   have H := HA.out; clear HA; simp only [impl_middles_1.l0] at H
   by_cases c2 : x10_1 < (l0.length : Int)
   ·rw [if_pos c2] at H
    have c2b0 := decide_eq_true c2; clear c2
    by_cases c3 : 0 ≤ x10_1
    ·rw [if_pos c3] at H
     have c3b0 := decide_eq_true c3; clear c3
     by_cases c4 : x10_1 < (l0.length : Int)
     ·rw [if_pos c4] at H
      have c4b0 := decide_eq_true c4; clear c4; have H' := ak H; clear H; have p344 : 0 ≤ (x10_1 : Int) := dq; have q344 : x10_1 < (l0.length : Int) := dq; obtain ⟨ad344, e344, hx344_0, hx344_1⟩ := at_T49 HR0.out x10_1 p344 q344; cases e344; replace hx344_0 := hb_ HB hx344_0; replace hx344_1 := hb_ HB hx344_1; replace p344 := eq_true p344; replace q344 := eq_true q344
      go_wp2_with (((with_reducible refine gate_dst (N := 7) rfl ?_); refine box_event ?hg (N := 7) ?hd (cs := #[.int .i64 0, .int .i64 0]) (t := 49) ?hr ?_; (case hd => rfl); (case hg => rfl); (case hr => (go_simp; done)); intro gb345 hg w5 hbox hb; have n0_ := ak (below_step bq hb); have n1_ := ak (hbox); have n2_ := ak ((by rw [hg]; exact (below_size bq) : w.heap.size ≤ gb345)); have n3_ := ak ((by rw [hg]; exact (below_size bq) : w.heap.size ≤ gb345)); clear HB; have HB := n0_; have BK345 := n1_; have GW345 := n2_; have GE345 := n3_; clear n0_ n1_ n2_ n3_; clear hb hbox hg; have hcz6_0 : w5.cell? ⟨gb345, 0, none⟩ = some (.int .i64 0) := (blk_cell BK345.out 0).trans rfl; have hcz6_1 : w5.cell? ⟨gb345, 1, none⟩ = some (.int .i64 0) := (blk_cell BK345.out 1).trans rfl; have hfz6_0 := blk_frozen BK345.out 0; have hfz6_1 := blk_frozen BK345.out 1))
      go_roundg k1
      case measure => have := HK1.out; omega
      case rel => exact ⟨(wrap64 (x5_1 + (wrap64 ((wrap64 (2 * ((rd_T49 l0 x10_1).f1))) + 1)))), (wrap64 (x10_1 + 1)), sq, sq, H', ⟨by have := HK1.out; omega⟩, ⟨bs⟩⟩
     ·rw [if_neg c4] at H
      exact absurd H (by simp)
    ·rw [if_neg c3] at H
     exact absurd H (by simp)
   ·rw [if_neg c2] at H
    have c2b0 := decide_eq_false c2; clear c2; obtain rfl := Option.some.inj H; go_wp2; go_ret; exact ⟨eq_, bq⟩

/-! ### impl_BodyCentre: function 39 -/
def impl_BodyCentre.f (k : Nat) (l0 : List (S49)) : Option (Int × Int × Int × Int × Bool) := (impl_IsBody.f k l0).bind fun t348 => (if t348 = true then ((impl_middles_0.f k l0).bind fun t349 => ((impl_fraction.f k t349 (wrap64 (2 * (l0.length : Int)))).bind fun bt350 => ((impl_middles_1.f k l0).bind fun t352 => ((impl_fraction.f k t352 (wrap64 (2 * (l0.length : Int)))).bind fun bt353 => (some (bt350.1, bt350.2, bt353.1, bt353.2, true)))))) else (some (0, 0, 0, 0, false)))
theorem impl_BodyCentre.mono : ∀ a0 k, LeO (impl_BodyCentre.f k a0) (impl_BodyCentre.f (k + 1) a0) := by
 intro a0 k
 unfold impl_BodyCentre.f
 repeat' first
   | (with_reducible exact impl_IsBody.mono _ _)
   | (with_reducible exact impl_fraction.mono _ _ _)
   | (with_reducible exact impl_middles_0.mono _ _)
   | (with_reducible exact impl_middles_1.mono _ _)
   | (with_reducible exact LeO.refl _)
   | (with_reducible exact LeO.none _)
   | (with_reducible refine LeO.ite ?_ ?_)
   | (with_reducible refine LeO.bind ?_ (fun _ => ?_))
set_option maxHeartbeats 8000000 in
set_option maxRecDepth 100000 in
theorem impl_BodyCentre.calls (k : Nat) (A0 : Option Addr) (c0 : Nat) (l0 : List (S49)) (r1 : Int) (r2 : Int) (r3 : Int) (r4 : Int) (r5 : Bool) (w : World) (hr0 : Kd.C k49 w A0 l0.length l0) (hc0 : l0.length ≤ c0) (h : impl_BodyCentre.f k l0 = some (r1, r2, r3, r4, r5)) :
  Calls Try.prog 39 #[.slice A0 l0.length c0] w fun e w' => e = .returned (.tuple #[.agg #[.int .i64 r1, .int .i64 r2], .agg #[.int .i64 r3, .int .i64 r4], .bool r5]) ∧ Below w.heap.size w w' := by
 have hu49 := Try.underlying49; have HR0 := ak hr0; have HC0 := ak hc0; clear hr0 hc0; have HB := ak (Below.refl w.heap.size w); have H := h; clear h
 unfold impl_BodyCentre.f at H
 obtain ⟨t348, A20, H⟩ := Option.bind_eq_some_iff.mp H
 have A2 := ak A20; clear A20
 by_cases c3 : t348 = true
 ·subst c3
  rw [if_pos rfl] at H; obtain ⟨t349, A40, H⟩ := Option.bind_eq_some_iff.mp H
  have A4 := ak A40; clear A40; obtain ⟨⟨t350, t351⟩, A50, H⟩ := Option.bind_eq_some_iff.mp H
  (try dsimp only at H)
  have A5 := ak A50; clear A50; obtain ⟨t352, A60, H⟩ := Option.bind_eq_some_iff.mp H
  have A6 := ak A60; clear A60; obtain ⟨⟨t353, t354⟩, A70, H⟩ := Option.bind_eq_some_iff.mp H
  (try dsimp only at H)
  have A7 := ak A70; clear A70; simp only [Option.some.injEq, Prod.mk.injEq] at H; obtain ⟨rfl, rfl, rfl, rfl, rfl⟩ := H
  go_enter Try.func39, Try.ntmps39
  go_wp2_with (first | ((with_reducible refine gate_dst (N := 2) rfl ?_); refine box_event ?hg (N := 2) ?hd (cs := #[.int .i64 0, .int .i64 0]) (t := 49) ?hr ?_; (case hd => rfl); (case hg => rfl); (case hr => (go_simp; done)); intro gb346 hg w8 hbox hb; have n0_ := ak (below_step bq hb); have n1_ := ak (hbox); have n2_ := ak ((by rw [hg]; exact (below_size bq) : w.heap.size ≤ gb346)); have n3_ := ak ((by rw [hg]; exact (below_size bq) : w.heap.size ≤ gb346)); clear HB; have HB := n0_; have BK346 := n1_; have GW346 := n2_; have GE346 := n3_; clear n0_ n1_ n2_ n3_; clear hb hbox hg) | ((with_reducible refine gate_dst (N := 3) rfl ?_); refine box_event ?hg (N := 3) ?hd (cs := #[.int .i64 0, .int .i64 0]) (t := 49) ?hr ?_; (case hd => rfl); (case hg => rfl); (case hr => (go_simp; done)); intro gb347 hg w9 hbox hb; have n0_ := ak (blk_below (g := gb346) (o := .cells #[.int .i64 0, .int .i64 0] 49 (0, 0)) (uq BK346) hb); have n1_ := ak (below_step bs hb); have n2_ := ak (hbox); have n3_ := ak ((by rw [hg]; exact (below_size bs) : w.heap.size ≤ gb347)); have n4_ := ak ((by rw [hg]; exact (below_size bs) : w.heap.size ≤ gb347)); have n5_ := ak ((by rw [hg]; exact Nat.ne_of_lt (blk_lt (g := gb346) (o := .cells #[.int .i64 0, .int .i64 0] 49 (0, 0)) (uq BK346)) : gb346 ≠ gb347)); have n6_ := ak ((by rw [hg]; exact Nat.ne_of_gt (blk_lt (g := gb346) (o := .cells #[.int .i64 0, .int .i64 0] 49 (0, 0)) (uq BK346)) : gb347 ≠ gb346)); clear BK346; clear HB; have BK346 := n0_; have HB := n1_; have BK347 := n2_; have GW347 := n3_; have GE347 := n4_; have NB346_347 := n5_; have NB347_346 := n6_; clear n0_ n1_ n2_ n3_ n4_ n5_ n6_; clear hb hbox hg) | ((with_reducible refine gate_callee (f := 34) rfl ?_); refine goesL_ (some 7) rfl rfl Try.func34 (by kernel_rfl) rfl #[.slice A0 l0.length c0] rfl aq ?_; (with_reducible refine (impl_IsBody.calls k _ _ l0 true _ ?side1 ?side2 A2.out).mono ?_); (case side1 => exact cq (Kd.C_below HR0.out HB.out)); (case side2 => exact HC0.out); rintro e w10 ⟨rfl, hb⟩; refine ⟨_, rfl, ?_⟩; have n0_ := ak (blk_below (g := gb346) (o := .cells #[.int .i64 0, .int .i64 0] 49 (0, 0)) (uq BK346) hb); have n1_ := ak (blk_below (g := gb347) (o := .cells #[.int .i64 0, .int .i64 0] 49 (0, 0)) (uq BK347) hb); have n2_ := ak (below_step bs hb); clear BK346; clear BK347; clear HB; have BK346 := n0_; have BK347 := n1_; have HB := n2_; clear n0_ n1_ n2_; (try clear hb)) | ((with_reducible refine gate_callee (f := 73) rfl ?_); refine goesL_ (some 15) rfl rfl Try.func73 (by kernel_rfl) rfl #[.slice A0 l0.length c0, .int .i64 0] rfl aq ?_; (with_reducible refine (impl_middles_0.calls k _ _ l0 t349 _ ?side1 ?side2 A4.out).mono ?_); (case side1 => exact cq (Kd.C_below HR0.out HB.out)); (case side2 => exact HC0.out); rintro e w11 ⟨rfl, hb⟩; refine ⟨_, rfl, ?_⟩; have n0_ := ak (blk_below (g := gb346) (o := .cells #[.int .i64 0, .int .i64 0] 49 (0, 0)) (uq BK346) hb); have n1_ := ak (blk_below (g := gb347) (o := .cells #[.int .i64 0, .int .i64 0] 49 (0, 0)) (uq BK347) hb); have n2_ := ak (below_step bs hb); clear BK346; clear BK347; clear HB; have BK346 := n0_; have BK347 := n1_; have HB := n2_; clear n0_ n1_ n2_; (try clear hb)) | ((with_reducible refine gate_callee (f := 98) rfl ?_); refine goesL_ (some 17) rfl rfl Try.func98 (by kernel_rfl) rfl #[.int .i64 t349, .int .i64 (wrap64 (2 * (l0.length : Int)))] rfl aq ?_; (with_reducible refine (impl_fraction.calls k t349 (wrap64 (2 * (l0.length : Int))) t350 t351 _ A5.out).mono ?_); rintro e w12 ⟨rfl, hb⟩; refine ⟨_, rfl, ?_⟩; have n0_ := ak (blk_below (g := gb346) (o := .cells #[.int .i64 0, .int .i64 0] 49 (0, 0)) (uq BK346) hb); have n1_ := ak (blk_below (g := gb347) (o := .cells #[.int .i64 0, .int .i64 0] 49 (0, 0)) (uq BK347) hb); have n2_ := ak (below_step bs hb); clear BK346; clear BK347; clear HB; have BK346 := n0_; have BK347 := n1_; have HB := n2_; clear n0_ n1_ n2_; (try clear hb)) | ((with_reducible refine gate_callee (f := 73) rfl ?_); refine goesL_ (some 19) rfl rfl Try.func73 (by kernel_rfl) rfl #[.slice A0 l0.length c0, .int .i64 1] rfl aq ?_; (with_reducible refine (impl_middles_1.calls k _ _ l0 t352 _ ?side1 ?side2 A6.out).mono ?_); (case side1 => exact cq (Kd.C_below HR0.out HB.out)); (case side2 => exact HC0.out); rintro e w13 ⟨rfl, hb⟩; refine ⟨_, rfl, ?_⟩; have n0_ := ak (blk_below (g := gb346) (o := .cells #[.int .i64 0, .int .i64 0] 49 (0, 0)) (uq BK346) hb); have n1_ := ak (blk_below (g := gb347) (o := .cells #[.int .i64 0, .int .i64 0] 49 (0, 0)) (uq BK347) hb); have n2_ := ak (below_step bs hb); clear BK346; clear BK347; clear HB; have BK346 := n0_; have BK347 := n1_; have HB := n2_; clear n0_ n1_ n2_; (try clear hb)) | ((with_reducible refine gate_callee (f := 98) rfl ?_); refine goesL_ (some 21) rfl rfl Try.func98 (by kernel_rfl) rfl #[.int .i64 t352, .int .i64 (wrap64 (2 * (l0.length : Int)))] rfl aq ?_; (with_reducible refine (impl_fraction.calls k t352 (wrap64 (2 * (l0.length : Int))) t353 t354 _ A7.out).mono ?_); rintro e w14 ⟨rfl, hb⟩; refine ⟨_, rfl, ?_⟩; have n0_ := ak (blk_below (g := gb346) (o := .cells #[.int .i64 0, .int .i64 0] 49 (0, 0)) (uq BK346) hb); have n1_ := ak (blk_below (g := gb347) (o := .cells #[.int .i64 0, .int .i64 0] 49 (0, 0)) (uq BK347) hb); have n2_ := ak (below_step bs hb); clear BK346; clear BK347; clear HB; have BK346 := n0_; have BK347 := n1_; have HB := n2_; clear n0_ n1_ n2_; (try clear hb); have hnb15 := NB346_347.out; have hnc15 := NB347_346.out; have hcz16_0 : w14.cell? ⟨gb346, 0, none⟩ = some (.int .i64 0) := (blk_cell BK346.out 0).trans rfl; have hcz16_1 : w14.cell? ⟨gb346, 1, none⟩ = some (.int .i64 0) := (blk_cell BK346.out 1).trans rfl; have hfz16_0 := blk_frozen BK346.out 0; have hfz16_1 := blk_frozen BK346.out 1; have hcz17_0 : w14.cell? ⟨gb347, 0, none⟩ = some (.int .i64 0) := (blk_cell BK347.out 0).trans rfl; have hcz17_1 : w14.cell? ⟨gb347, 1, none⟩ = some (.int .i64 0) := (blk_cell BK347.out 1).trans rfl; have hfz17_0 := blk_frozen BK347.out 0; have hfz17_1 := blk_frozen BK347.out 1))
  refine bodyPost_ret (results_list (rs := [.cell 2 49, .cell 3 49, .tmp 4]) rfl (by simp) (.cell gb346 49 #[.int .i64 t350, .int .i64 t351] (0, 0) _ rfl (by refine blk_far ?_ NB346_347.out _; refine blk_far ?_ NB346_347.out _; refine blk_put (cs := #[.int .i64 t350, .int .i64 0]) ?_ 1 _ rfl; refine blk_put (cs := #[.int .i64 0, .int .i64 0]) ?_ 0 _ rfl; exact BK346.out) Try.underlying49 rfl (by kernel_rfl) (.cell gb347 49 #[.int .i64 t353, .int .i64 t354] (0, 0) _ rfl (by refine blk_put (cs := #[.int .i64 t353, .int .i64 0]) ?_ 1 _ rfl; refine blk_put (cs := #[.int .i64 0, .int .i64 0]) ?_ 0 _ rfl; refine blk_far ?_ NB347_346.out _; refine blk_far ?_ NB347_346.out _; exact BK347.out) Try.underlying49 rfl (by kernel_rfl) (.tmp .nil)))) rfl ?_; exact ⟨eq_, bs⟩
 ·replace c3 := Bool.eq_false_iff.mpr c3
  subst c3; rw [if_neg (show ¬ (false = true) by decide)] at H; simp only [Option.some.injEq, Prod.mk.injEq] at H; obtain ⟨rfl, rfl, rfl, rfl, rfl⟩ := H
  go_enter Try.func39, Try.ntmps39
  go_wp2_with (first | ((with_reducible refine gate_dst (N := 2) rfl ?_); refine box_event ?hg (N := 2) ?hd (cs := #[.int .i64 0, .int .i64 0]) (t := 49) ?hr ?_; (case hd => rfl); (case hg => rfl); (case hr => (go_simp; done)); intro gb346 hg w18 hbox hb; have n0_ := ak (below_step bq hb); have n1_ := ak (hbox); have n2_ := ak ((by rw [hg]; exact (below_size bq) : w.heap.size ≤ gb346)); have n3_ := ak ((by rw [hg]; exact (below_size bq) : w.heap.size ≤ gb346)); clear HB; have HB := n0_; have BK346 := n1_; have GW346 := n2_; have GE346 := n3_; clear n0_ n1_ n2_ n3_; clear hb hbox hg) | ((with_reducible refine gate_dst (N := 3) rfl ?_); refine box_event ?hg (N := 3) ?hd (cs := #[.int .i64 0, .int .i64 0]) (t := 49) ?hr ?_; (case hd => rfl); (case hg => rfl); (case hr => (go_simp; done)); intro gb347 hg w19 hbox hb; have n0_ := ak (blk_below (g := gb346) (o := .cells #[.int .i64 0, .int .i64 0] 49 (0, 0)) (uq BK346) hb); have n1_ := ak (below_step bs hb); have n2_ := ak (hbox); have n3_ := ak ((by rw [hg]; exact (below_size bs) : w.heap.size ≤ gb347)); have n4_ := ak ((by rw [hg]; exact (below_size bs) : w.heap.size ≤ gb347)); have n5_ := ak ((by rw [hg]; exact Nat.ne_of_lt (blk_lt (g := gb346) (o := .cells #[.int .i64 0, .int .i64 0] 49 (0, 0)) (uq BK346)) : gb346 ≠ gb347)); have n6_ := ak ((by rw [hg]; exact Nat.ne_of_gt (blk_lt (g := gb346) (o := .cells #[.int .i64 0, .int .i64 0] 49 (0, 0)) (uq BK346)) : gb347 ≠ gb346)); clear BK346; clear HB; have BK346 := n0_; have HB := n1_; have BK347 := n2_; have GW347 := n3_; have GE347 := n4_; have NB346_347 := n5_; have NB347_346 := n6_; clear n0_ n1_ n2_ n3_ n4_ n5_ n6_; clear hb hbox hg) | ((with_reducible refine gate_callee (f := 34) rfl ?_); refine goesL_ (some 7) rfl rfl Try.func34 (by kernel_rfl) rfl #[.slice A0 l0.length c0] rfl aq ?_; (with_reducible refine (impl_IsBody.calls k _ _ l0 false _ ?side1 ?side2 A2.out).mono ?_); (case side1 => exact cq (Kd.C_below HR0.out HB.out)); (case side2 => exact HC0.out); rintro e w20 ⟨rfl, hb⟩; refine ⟨_, rfl, ?_⟩; have n0_ := ak (blk_below (g := gb346) (o := .cells #[.int .i64 0, .int .i64 0] 49 (0, 0)) (uq BK346) hb); have n1_ := ak (blk_below (g := gb347) (o := .cells #[.int .i64 0, .int .i64 0] 49 (0, 0)) (uq BK347) hb); have n2_ := ak (below_step bs hb); clear BK346; clear BK347; clear HB; have BK346 := n0_; have BK347 := n1_; have HB := n2_; clear n0_ n1_ n2_; (try clear hb); have hnb21 := NB346_347.out; have hnc21 := NB347_346.out; have hcz22_0 : w20.cell? ⟨gb346, 0, none⟩ = some (.int .i64 0) := (blk_cell BK346.out 0).trans rfl; have hcz22_1 : w20.cell? ⟨gb346, 1, none⟩ = some (.int .i64 0) := (blk_cell BK346.out 1).trans rfl; have hfz22_0 := blk_frozen BK346.out 0; have hfz22_1 := blk_frozen BK346.out 1; have hcz23_0 : w20.cell? ⟨gb347, 0, none⟩ = some (.int .i64 0) := (blk_cell BK347.out 0).trans rfl; have hcz23_1 : w20.cell? ⟨gb347, 1, none⟩ = some (.int .i64 0) := (blk_cell BK347.out 1).trans rfl; have hfz23_0 := blk_frozen BK347.out 0; have hfz23_1 := blk_frozen BK347.out 1))
  refine bodyPost_ret (results_list (rs := [.cell 2 49, .cell 3 49, .tmp 4]) rfl (by simp) (.cell gb346 49 #[.int .i64 0, .int .i64 0] (0, 0) _ rfl (by refine blk_far ?_ NB346_347.out _; refine blk_far ?_ NB346_347.out _; refine blk_put (cs := #[.int .i64 0, .int .i64 0]) ?_ 1 _ rfl; refine blk_put (cs := #[.int .i64 0, .int .i64 0]) ?_ 0 _ rfl; exact BK346.out) Try.underlying49 rfl (by kernel_rfl) (.cell gb347 49 #[.int .i64 0, .int .i64 0] (0, 0) _ rfl (by refine blk_put (cs := #[.int .i64 0, .int .i64 0]) ?_ 1 _ rfl; refine blk_put (cs := #[.int .i64 0, .int .i64 0]) ?_ 0 _ rfl; refine blk_far ?_ NB347_346.out _; refine blk_far ?_ NB347_346.out _; exact BK347.out) Try.underlying49 rfl (by kernel_rfl) (.tmp .nil)))) rfl ?_; exact ⟨eq_, bs⟩

end Go.Proofs.Ytckhmeadflafaaa.XFb
