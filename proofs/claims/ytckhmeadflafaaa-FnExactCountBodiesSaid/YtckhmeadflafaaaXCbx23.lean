/- Functions of the program as plain Lean functions, each with the proof that the machine's call does what it says: written by a program of this session out of the translation. -/
import Derived.Shelf.SlSortCmp.Whole1
import Derived.Sort.AssemblyPlain
import Derived.Test.YtckhmeadflafaaaSortLayB
import Derived.Test.YtckhmeadflafaaaXCbx0
import Derived.Test.YtckhmeadflafaaaXCbx2
import Derived.Test.YtckhmeadflafaaaXCbx16
import Derived.Test.YtckhmeadflafaaaXCbx21
namespace Go.Proofs.Ytckhmeadflafaaa.XCb
open Go.RowKit Go.Proofs.YtckhmeadflafaaaW.PrintWords Go.Proofs.YtckhmeadflafaaaW.PrintLast Go.Proofs.YtckhmeadflafaaaW.PrintMore
attribute [local go_sem] max2_int min2_int max_two min_two max_three min_three max_four min_four   -- for this text's walks alone
set_option linter.unusedVariables false
set_option linter.unusedSimpArgs false

/-! ### slices_SortFunc_CountBodies_1: function 81, by hand -/
-- needs 82
/-! below, and no fewer draws -/
structure BelowG (n : Nat) (w w' : World) : Prop where
 b : Below n w w'
 d : w.drawn ≤ w'.drawn
theorem BelowG.refl (n : Nat) (w : World) : BelowG n w w := ⟨Below.refl _ _, Nat.le_refl _⟩
theorem belowG_alloc {w w1 : World} (h : BelowG w.heap.size w w1) (o : Obj) : BelowG w.heap.size w (w1.alloc o) := ⟨below_alloc h.b o, h.d⟩
theorem belowG_drew1 {n : Nat} {w w1 : World} (h : BelowG n w w1) : BelowG n w w1.drew := ⟨below_drew1 h.b, Nat.le_trans h.d (Nat.le_succ _)⟩
theorem belowG_drewN {n : Nat} {w w1 : World} (h : BelowG n w w1) (m : Nat) : BelowG n w (w1.drewN m) := ⟨pw_below_drewN h.b m, Nat.le_trans h.d (Nat.le_add_right _ _)⟩
theorem belowG_size {w w1 : World} (h : BelowG w.heap.size w w1) : w.heap.size ≤ w1.heap.size := below_size h.b
theorem belowG_step {w w1 w2 : World} (h : BelowG w.heap.size w w1) (k : BelowG w1.heap.size w1 w2) : BelowG w.heap.size w w2 := ⟨below_step h.b k.b, Nat.le_trans h.d k.d⟩
theorem belowG_set {w w1 : World} {g j : Nat} {v : Value} (h : BelowG w.heap.size w w1) (hg : w.heap.size ≤ g) : BelowG w.heap.size w (w1.setCell ⟨g, j, none⟩ v) := ⟨below_set h.b hg, h.d⟩
theorem box_eventG {P : Program} {ops : Array Oper} {rest : List Oper} {o : Oper} {a : Act} {Q : Exit → Act → World → Prop} {W : World} (hgd : o.guard = none) {N : Tmp} (_hd : o.dst = some N) {cs : Array Value} {t : TypeId}
  (hrun : (execOp a.eval o).run P W = .ok (.value (.pointer (some ⟨W.heap.size, 0, none⟩))) (W.alloc (.cells cs t (0, 0))))
  (h : ∀ g, g = W.heap.size → ∀ w1, w1.heap[g]? = some (.cells cs t (0, 0)) → BelowG W.heap.size W w1 → wpList P ops Q rest (a.put o.dst (.pointer (some ⟨g, 0, none⟩))) w1) : wpList P ops Q (o :: rest) a W :=
 Kd.event_run hgd hrun (h _ rfl _ (blk_new W _) (belowG_alloc (BelowG.refl _ _) _))
theorem blk_belowG {w w1 : World} {g : Nat} {o : Obj} (h : w.heap[g]? = some o) (hb : BelowG w.heap.size w w1) : w1.heap[g]? = some o := blk_below h hb.b
theorem belowG_grow {w w' : World} (h : BelowG w.heap.size w w') : ∃ q os, w' = Go.Sort.grow (w.drewN q) os := by
 obtain ⟨⟨h1, h2, h3, h4, h5⟩, h6⟩ := h; refine ⟨w'.drawn - w.drawn, w'.heap.extract w.heap.size w'.heap.size, ?_⟩
 have e : w'.heap = w.heap ++ w'.heap.extract w.heap.size w'.heap.size := by
  apply Array.ext_getElem?
  intro i
  by_cases hi : i < w.heap.size
  ·rw [Array.getElem?_append_left hi]; exact h5 i hi
  ·rw [Array.getElem?_append_right (by omega)]
   by_cases hj : i < w'.heap.size
   ·rw [Array.getElem?_extract]
    rw [if_pos (by omega), show w.heap.size + (i - w.heap.size) = i from by omega]
   ·rw [Array.getElem?_eq_none (by omega), Array.getElem?_eq_none (by simp; omega)]
 cases w' with
 | mk heap tape drawn os output =>
  simp only at h1 h2 h3 h4 h6 e ⊢; subst h1 h2 h3
  unfold Go.Sort.grow World.drewN
  simp only [World.mk.injEq, and_true, true_and]; exact ⟨e, by omega⟩
theorem impl_compareCells.callsB (k : Nat) (a0_0 a0_1 a1_0 a1_1 r : Int) (w : World) (h : impl_compareCells.f k a0_0 a0_1 a1_0 a1_1 = some r) :
  Calls Try.prog 84 #[.agg #[.int .i64 a0_0, .int .i64 a0_1], .agg #[.int .i64 a1_0, .int .i64 a1_1]] w fun e w' => e = .returned (.int .i64 r) ∧ BelowG w.heap.size w w' :=
 (impl_compareCells.callsG k a0_0 a0_1 a1_0 a1_1 r w h).mono (by
  rintro e w' ⟨rfl, q, os, rfl⟩
  exact ⟨rfl, below_grownC w q os, Nat.le_add_right _ _⟩)
set_option maxHeartbeats 8000000 in
set_option maxRecDepth 100000 in
theorem slices_CompareFunc_compareCells.callsB (k : Nat) (A0 : Option Addr) (c0 : Nat) (l0 : List (S49)) (A1 : Option Addr) (c1 : Nat) (l1 : List (S49)) (r : Int) (w : World) (hr0 : Kd.C k49 w A0 l0.length l0) (hc0 : l0.length ≤ c0) (hr1 : Kd.C k49 w A1 l1.length l1) (hc1 : l1.length ≤ c1) (h : slices_CompareFunc_compareCells.f k l0 l1 = some r) :
  Calls Try.prog 83 #[.slice A0 l0.length c0, .slice A1 l1.length c1, .func (.func 84) #[] #[]] w fun e w' => e = .returned (.int .i64 r) ∧ BelowG w.heap.size w w' := by
 have hu_ := Try.underlying49; have HR0 := ak hr0; have HC0 := ak hc0; clear hr0 hc0; have HR1 := ak hr1; have HC1 := ak hc1; clear hr1 hc1; have HB := ak (BelowG.refl w.heap.size w); have H : (slices_CompareFunc_compareCells.l0 k l0 l1 l0 (l0.length : Int) 0) = some r := h; clear h; have H' := ak H; clear H
 go_enter Try.func83, Try.ntmps83
 go_wp2
 go_loopg [13] k (fun kq v13 w' => ∃ (x13_1 : Int), v13 = .int .i64 x13_1 ∧ Aside0 (slices_CompareFunc_compareCells.l0 kq l0 l1 l0 (l0.length : Int) x13_1 = some r) ∧ Aside0 (kq ≤ k) ∧ Aside0 (BelowG w.heap.size w w'))
 case atStart => exact ⟨(0), sq, H', ⟨Nat.le_refl _⟩, ⟨by repeat (first | (with_reducible first | exact HB.out | apply belowG_alloc | apply belowG_drewN | apply belowG_drew1) | exact HB.out | exact BelowG.refl _ _)⟩⟩
 case round =>
  clear H'; (try clear c1); (try clear p2); obtain ⟨x13_1, rfl, HA, HK1, HB⟩ := hrel
  cases gk with
  | zero => exact absurd HA.out (by simp [slices_CompareFunc_compareCells.l0])
  | succ k1 =>
   have H := HA.out; clear HA; simp only [slices_CompareFunc_compareCells.l0] at H
   by_cases c3 : x13_1 < (l0.length : Int)
   ·rw [if_pos c3] at H
    have c3b0 := decide_eq_true c3; clear c3
    by_cases c4 : 0 ≤ x13_1
    ·rw [if_pos c4] at H
     have c4b0 := decide_eq_true c4; clear c4
     by_cases c5 : x13_1 < (l0.length : Int)
     ·rw [if_pos c5] at H
      have c5b0 := decide_eq_true c5; clear c5
      by_cases c6 : x13_1 ≥ (l1.length : Int)
      ·rw [if_pos c6] at H
       have c6b0 : decide ((l1.length : Int) ≤ x13_1) = true := decide_eq_true c6; clear c6; obtain rfl := Option.some.inj H; have p277 : 0 ≤ (x13_1 : Int) := dq; have q277 : x13_1 < (l0.length : Int) := dq; obtain ⟨ad277, e277, hx277_0, hx277_1⟩ := at_T49 HR0.out x13_1 p277 q277; cases e277; replace hx277_0 := (HB.out.b.cell (World.block_lt_of_cell? w _ hx277_0)).trans hx277_0; replace hx277_1 := (HB.out.b.cell (World.block_lt_of_cell? w _ hx277_1)).trans hx277_1; replace p277 := eq_true p277; replace q277 := eq_true q277
       go_wp2_with (first | ((with_reducible refine gate_dst (N := 8) rfl ?_); refine box_eventG ?hg (N := 8) ?hd (cs := #[.int .i64 0, .int .i64 0]) (t := 49) ?hr ?_; (case hd => rfl); (case hg => rfl); (case hr => first | (go_simp; done) | (go_simp; rfl)); intro gb278 hg w7 hbox hb; have n0_ := ak (belowG_step (by repeat (first | (with_reducible first | exact HB.out | apply belowG_alloc | apply belowG_drewN | apply belowG_drew1) | exact HB.out)) hb); have n1_ := ak (hbox); have n2_ := ak ((by rw [hg]; exact (belowG_size (by repeat (first | (with_reducible first | exact HB.out | apply belowG_alloc | apply belowG_drewN | apply belowG_drew1) | exact HB.out))) : w.heap.size ≤ gb278)); have n3_ := ak ((by rw [hg]; exact (belowG_size (by repeat (first | (with_reducible first | exact HB.out | apply belowG_alloc | apply belowG_drewN | apply belowG_drew1) | exact HB.out))) : w.heap.size ≤ gb278)); clear HB; have HB := n0_; have BK278 := n1_; have GW278 := n2_; have GE278 := n3_; clear n0_ n1_ n2_ n3_; clear hb hbox hg; have hcz8_0 : w7.cell? ⟨gb278, 0, none⟩ = some (.int .i64 0) := (blk_cell BK278.out 0).trans rfl; have hcz8_1 : w7.cell? ⟨gb278, 1, none⟩ = some (.int .i64 0) := (blk_cell BK278.out 1).trans rfl; have hfz8_0 := blk_frozen BK278.out 0; have hfz8_1 := blk_frozen BK278.out 1))
       go_ret; exact ⟨eq_, by repeat (first | (with_reducible first | exact HB.out | apply belowG_alloc | apply belowG_drewN | apply belowG_drew1 | refine belowG_set ?_ GE278.out) | exact HB.out)⟩
      ·rw [if_neg c6] at H
       have c6b0 : decide ((l1.length : Int) ≤ x13_1) = false := decide_eq_false c6; clear c6
       by_cases c9 : x13_1 < (l1.length : Int)
       ·rw [if_pos c9] at H
        have c9b0 := decide_eq_true c9; clear c9; obtain ⟨t281, A100, H⟩ := Option.bind_eq_some_iff.mp H
        (try dsimp only at H)
        have A10 := ak A100; clear A100
        by_cases c11 : t281 = 0
        ·rw [if_pos c11] at H
         have c11b0 : (t281 == 0) = true := beq_iff_eq.mpr c11; have c11b1 : (t281 != 0) = false := bne_eq_false_iff_eq.mpr c11; clear c11; have H' := ak H; clear H; have p277 : 0 ≤ (x13_1 : Int) := dq; have q277 : x13_1 < (l0.length : Int) := dq; obtain ⟨ad277, e277, hx277_0, hx277_1⟩ := at_T49 HR0.out x13_1 p277 q277; cases e277; replace hx277_0 := (HB.out.b.cell (World.block_lt_of_cell? w _ hx277_0)).trans hx277_0; replace hx277_1 := (HB.out.b.cell (World.block_lt_of_cell? w _ hx277_1)).trans hx277_1; replace p277 := eq_true p277; replace q277 := eq_true q277
         go_wp2_with (first | ((with_reducible refine gate_dst (N := 8) rfl ?_); refine box_eventG ?hg (N := 8) ?hd (cs := #[.int .i64 0, .int .i64 0]) (t := 49) ?hr ?_; (case hd => rfl); (case hg => rfl); (case hr => first | (go_simp; done) | (go_simp; rfl)); intro gb278 hg w12 hbox hb; have n0_ := ak (belowG_step (by repeat (first | (with_reducible first | exact HB.out | apply belowG_alloc | apply belowG_drewN | apply belowG_drew1) | exact HB.out)) hb); have n1_ := ak (hbox); have n2_ := ak ((by rw [hg]; exact (belowG_size (by repeat (first | (with_reducible first | exact HB.out | apply belowG_alloc | apply belowG_drewN | apply belowG_drew1) | exact HB.out))) : w.heap.size ≤ gb278)); have n3_ := ak ((by rw [hg]; exact (belowG_size (by repeat (first | (with_reducible first | exact HB.out | apply belowG_alloc | apply belowG_drewN | apply belowG_drew1) | exact HB.out))) : w.heap.size ≤ gb278)); clear HB; have HB := n0_; have BK278 := n1_; have GW278 := n2_; have GE278 := n3_; clear n0_ n1_ n2_ n3_; clear hb hbox hg; have hcz13_0 : w12.cell? ⟨gb278, 0, none⟩ = some (.int .i64 0) := (blk_cell BK278.out 0).trans rfl; have hcz13_1 : w12.cell? ⟨gb278, 1, none⟩ = some (.int .i64 0) := (blk_cell BK278.out 1).trans rfl; have hfz13_0 := blk_frozen BK278.out 0; have hfz13_1 := blk_frozen BK278.out 1; have p279 : 0 ≤ (x13_1 : Int) := dq; have q279 : x13_1 < (l1.length : Int) := dq; obtain ⟨ad279, e279, hx279_0, hx279_1⟩ := at_T49 HR1.out x13_1 p279 q279; cases e279; have hn279_0 : ad279.block ≠ gb278 := Nat.ne_of_lt (Nat.lt_of_lt_of_le (by have := World.block_lt_of_cell? _ _ hx279_0; first | rwa [add_block] at this | exact this) GW278.out); have hn279_1 : ad279.block ≠ gb278 := Nat.ne_of_lt (Nat.lt_of_lt_of_le (by have := World.block_lt_of_cell? _ _ hx279_0; first | rwa [add_block] at this | exact this) GW278.out); replace hx279_0 := (HB.out.b.cell (World.block_lt_of_cell? w _ hx279_0)).trans hx279_0; replace hx279_1 := (HB.out.b.cell (World.block_lt_of_cell? w _ hx279_1)).trans hx279_1; replace hx279_0 := (cell_far (p := ⟨gb278, 0, none⟩) (by first | (rw [add_block]; exact hn279_0) | (show (Addr.add _ _).block ≠ _; rw [add_block]; exact hn279_0) | exact hn279_0) (.int .i64 ((rd_T49 l0 x13_1).f0))).trans hx279_0; replace hx279_1 := (cell_far (p := ⟨gb278, 0, none⟩) (by first | (rw [add_block]; exact hn279_0) | (show (Addr.add _ _).block ≠ _; rw [add_block]; exact hn279_0) | exact hn279_0) (.int .i64 ((rd_T49 l0 x13_1).f0))).trans hx279_1; replace hx279_0 := (cell_far (p := ⟨gb278, 1, none⟩) (by first | (rw [add_block]; exact hn279_1) | (show (Addr.add _ _).block ≠ _; rw [add_block]; exact hn279_1) | exact hn279_1) (.int .i64 ((rd_T49 l0 x13_1).f1))).trans hx279_0; replace hx279_1 := (cell_far (p := ⟨gb278, 1, none⟩) (by first | (rw [add_block]; exact hn279_1) | (show (Addr.add _ _).block ≠ _; rw [add_block]; exact hn279_1) | exact hn279_1) (.int .i64 ((rd_T49 l0 x13_1).f1))).trans hx279_1; clear hn279_0; clear hn279_1; replace p279 := eq_true p279; replace q279 := eq_true q279) | ((with_reducible refine gate_dst (N := 9) rfl ?_); refine box_eventG ?hg (N := 9) ?hd (cs := #[.int .i64 0, .int .i64 0]) (t := 49) ?hr ?_; (case hd => rfl); (case hg => rfl); (case hr => first | (go_simp; done) | (go_simp; rfl)); intro gb280 hg w14 hbox hb; have n0_ := ak (blk_belowG (g := gb278) (o := .cells #[.int .i64 ((rd_T49 l0 x13_1).f0), .int .i64 ((rd_T49 l0 x13_1).f1)] 49 (0, 0)) (by (with_reducible repeat (first | refine blk_drewN ?_ _ | refine blk_drew ?_ | refine blk_alloc ?_ _)); refine blk_put (cs := #[.int .i64 ((rd_T49 l0 x13_1).f0), .int .i64 0]) ?_ 1 _ rfl; (with_reducible repeat (first | refine blk_drewN ?_ _ | refine blk_drew ?_ | refine blk_alloc ?_ _)); refine blk_put (cs := #[.int .i64 0, .int .i64 0]) ?_ 0 _ rfl; (with_reducible repeat (first | refine blk_drewN ?_ _ | refine blk_drew ?_ | refine blk_alloc ?_ _)); exact BK278.out) hb); have n1_ := ak (belowG_step (by repeat (first | (with_reducible first | exact HB.out | apply belowG_alloc | apply belowG_drewN | apply belowG_drew1 | refine belowG_set ?_ GE278.out) | exact HB.out)) hb); have n2_ := ak (hbox); have n3_ := ak ((by rw [hg]; exact (belowG_size (by repeat (first | (with_reducible first | exact HB.out | apply belowG_alloc | apply belowG_drewN | apply belowG_drew1 | refine belowG_set ?_ GE278.out) | exact HB.out))) : w.heap.size ≤ gb280)); have n4_ := ak ((by rw [hg]; exact (belowG_size (by repeat (first | (with_reducible first | exact HB.out | apply belowG_alloc | apply belowG_drewN | apply belowG_drew1 | refine belowG_set ?_ GE278.out) | exact HB.out))) : w.heap.size ≤ gb280)); have n5_ := ak ((by rw [hg]; exact Nat.ne_of_lt (blk_lt (g := gb278) (o := .cells #[.int .i64 ((rd_T49 l0 x13_1).f0), .int .i64 ((rd_T49 l0 x13_1).f1)] 49 (0, 0)) (by (with_reducible repeat (first | refine blk_drewN ?_ _ | refine blk_drew ?_ | refine blk_alloc ?_ _)); refine blk_put (cs := #[.int .i64 ((rd_T49 l0 x13_1).f0), .int .i64 0]) ?_ 1 _ rfl; (with_reducible repeat (first | refine blk_drewN ?_ _ | refine blk_drew ?_ | refine blk_alloc ?_ _)); refine blk_put (cs := #[.int .i64 0, .int .i64 0]) ?_ 0 _ rfl; (with_reducible repeat (first | refine blk_drewN ?_ _ | refine blk_drew ?_ | refine blk_alloc ?_ _)); exact BK278.out)) : gb278 ≠ gb280)); have n6_ := ak ((by rw [hg]; exact Nat.ne_of_gt (blk_lt (g := gb278) (o := .cells #[.int .i64 ((rd_T49 l0 x13_1).f0), .int .i64 ((rd_T49 l0 x13_1).f1)] 49 (0, 0)) (by (with_reducible repeat (first | refine blk_drewN ?_ _ | refine blk_drew ?_ | refine blk_alloc ?_ _)); refine blk_put (cs := #[.int .i64 ((rd_T49 l0 x13_1).f0), .int .i64 0]) ?_ 1 _ rfl; (with_reducible repeat (first | refine blk_drewN ?_ _ | refine blk_drew ?_ | refine blk_alloc ?_ _)); refine blk_put (cs := #[.int .i64 0, .int .i64 0]) ?_ 0 _ rfl; (with_reducible repeat (first | refine blk_drewN ?_ _ | refine blk_drew ?_ | refine blk_alloc ?_ _)); exact BK278.out)) : gb280 ≠ gb278)); clear BK278; clear HB; have BK278 := n0_; have HB := n1_; have BK280 := n2_; have GW280 := n3_; have GE280 := n4_; have NB278_280 := n5_; have NB280_278 := n6_; clear n0_ n1_ n2_ n3_ n4_ n5_ n6_; clear hb hbox hg; have hnb15 := NB280_278.out; have hnc15 := NB278_280.out; have hcz16_0 : w14.cell? ⟨gb280, 0, none⟩ = some (.int .i64 0) := (blk_cell BK280.out 0).trans rfl; have hcz16_1 : w14.cell? ⟨gb280, 1, none⟩ = some (.int .i64 0) := (blk_cell BK280.out 1).trans rfl; have hfz16_0 := blk_frozen BK280.out 0; have hfz16_1 := blk_frozen BK280.out 1; have hcz17_0 : w14.cell? ⟨gb278, 0, none⟩ = some (.int .i64 ((rd_T49 l0 x13_1).f0)) := (blk_cell BK278.out 0).trans rfl; have hcz17_1 : w14.cell? ⟨gb278, 1, none⟩ = some (.int .i64 ((rd_T49 l0 x13_1).f1)) := (blk_cell BK278.out 1).trans rfl; have hfz17_0 := blk_frozen BK278.out 0; have hfz17_1 := blk_frozen BK278.out 1) | (go_at_call 84; (with_reducible refine (impl_compareCells.callsB k1 ((rd_T49 l0 x13_1).f0) ((rd_T49 l0 x13_1).f1) ((rd_T49 l1 x13_1).f0) ((rd_T49 l1 x13_1).f1) t281 _ A10.out).mono ?_); rintro e w18 ⟨rfl, hb⟩; have n0_ := ak (blk_belowG (g := gb278) (o := .cells #[.int .i64 ((rd_T49 l0 x13_1).f0), .int .i64 ((rd_T49 l0 x13_1).f1)] 49 (0, 0)) (by (with_reducible repeat (first | refine blk_drewN ?_ _ | refine blk_drew ?_ | refine blk_alloc ?_ _)); refine blk_far ?_ NB278_280.out _; (with_reducible repeat (first | refine blk_drewN ?_ _ | refine blk_drew ?_ | refine blk_alloc ?_ _)); refine blk_far ?_ NB278_280.out _; (with_reducible repeat (first | refine blk_drewN ?_ _ | refine blk_drew ?_ | refine blk_alloc ?_ _)); exact BK278.out) hb); have n1_ := ak (blk_belowG (g := gb280) (o := .cells #[.int .i64 ((rd_T49 l1 x13_1).f0), .int .i64 ((rd_T49 l1 x13_1).f1)] 49 (0, 0)) (by (with_reducible repeat (first | refine blk_drewN ?_ _ | refine blk_drew ?_ | refine blk_alloc ?_ _)); refine blk_put (cs := #[.int .i64 ((rd_T49 l1 x13_1).f0), .int .i64 0]) ?_ 1 _ rfl; (with_reducible repeat (first | refine blk_drewN ?_ _ | refine blk_drew ?_ | refine blk_alloc ?_ _)); refine blk_put (cs := #[.int .i64 0, .int .i64 0]) ?_ 0 _ rfl; (with_reducible repeat (first | refine blk_drewN ?_ _ | refine blk_drew ?_ | refine blk_alloc ?_ _)); exact BK280.out) hb); have n2_ := ak (belowG_step (by repeat (first | (with_reducible first | exact HB.out | apply belowG_alloc | apply belowG_drewN | apply belowG_drew1 | refine belowG_set ?_ GE278.out | refine belowG_set ?_ GE280.out) | exact HB.out)) hb); clear BK278; clear BK280; clear HB; have BK278 := n0_; have BK280 := n1_; have HB := n2_; clear n0_ n1_ n2_; (try clear hb); (try clear hb2); (try clear hk); (try clear hi)))
         go_roundg k1
         case measure => have := HK1.out; omega
         case rel => exact ⟨(wrap64 (x13_1 + 1)), sq, H', ⟨by have := HK1.out; omega⟩, ⟨by repeat (first | (with_reducible first | exact HB.out | apply belowG_alloc | apply belowG_drewN | apply belowG_drew1 | refine belowG_set ?_ GE278.out | refine belowG_set ?_ GE280.out) | exact HB.out)⟩⟩
        ·rw [if_neg c11] at H
         have c11b0 : (t281 == 0) = false := beq_eq_false_iff_ne.mpr c11; have c11b1 : (t281 != 0) = true := bne_iff_ne.mpr c11; obtain rfl := Option.some.inj H; have p277 : 0 ≤ (x13_1 : Int) := dq; have q277 : x13_1 < (l0.length : Int) := dq; obtain ⟨ad277, e277, hx277_0, hx277_1⟩ := at_T49 HR0.out x13_1 p277 q277; cases e277; replace hx277_0 := (HB.out.b.cell (World.block_lt_of_cell? w _ hx277_0)).trans hx277_0; replace hx277_1 := (HB.out.b.cell (World.block_lt_of_cell? w _ hx277_1)).trans hx277_1; replace p277 := eq_true p277; replace q277 := eq_true q277
         go_wp2_with (first | ((with_reducible refine gate_dst (N := 8) rfl ?_); refine box_eventG ?hg (N := 8) ?hd (cs := #[.int .i64 0, .int .i64 0]) (t := 49) ?hr ?_; (case hd => rfl); (case hg => rfl); (case hr => first | (go_simp; done) | (go_simp; rfl)); intro gb278 hg w19 hbox hb; have n0_ := ak (belowG_step (by repeat (first | (with_reducible first | exact HB.out | apply belowG_alloc | apply belowG_drewN | apply belowG_drew1) | exact HB.out)) hb); have n1_ := ak (hbox); have n2_ := ak ((by rw [hg]; exact (belowG_size (by repeat (first | (with_reducible first | exact HB.out | apply belowG_alloc | apply belowG_drewN | apply belowG_drew1) | exact HB.out))) : w.heap.size ≤ gb278)); have n3_ := ak ((by rw [hg]; exact (belowG_size (by repeat (first | (with_reducible first | exact HB.out | apply belowG_alloc | apply belowG_drewN | apply belowG_drew1) | exact HB.out))) : w.heap.size ≤ gb278)); clear HB; have HB := n0_; have BK278 := n1_; have GW278 := n2_; have GE278 := n3_; clear n0_ n1_ n2_ n3_; clear hb hbox hg; have hcz20_0 : w19.cell? ⟨gb278, 0, none⟩ = some (.int .i64 0) := (blk_cell BK278.out 0).trans rfl; have hcz20_1 : w19.cell? ⟨gb278, 1, none⟩ = some (.int .i64 0) := (blk_cell BK278.out 1).trans rfl; have hfz20_0 := blk_frozen BK278.out 0; have hfz20_1 := blk_frozen BK278.out 1; have p279 : 0 ≤ (x13_1 : Int) := dq; have q279 : x13_1 < (l1.length : Int) := dq; obtain ⟨ad279, e279, hx279_0, hx279_1⟩ := at_T49 HR1.out x13_1 p279 q279; cases e279; have hn279_0 : ad279.block ≠ gb278 := Nat.ne_of_lt (Nat.lt_of_lt_of_le (by have := World.block_lt_of_cell? _ _ hx279_0; first | rwa [add_block] at this | exact this) GW278.out); have hn279_1 : ad279.block ≠ gb278 := Nat.ne_of_lt (Nat.lt_of_lt_of_le (by have := World.block_lt_of_cell? _ _ hx279_0; first | rwa [add_block] at this | exact this) GW278.out); replace hx279_0 := (HB.out.b.cell (World.block_lt_of_cell? w _ hx279_0)).trans hx279_0; replace hx279_1 := (HB.out.b.cell (World.block_lt_of_cell? w _ hx279_1)).trans hx279_1; replace hx279_0 := (cell_far (p := ⟨gb278, 0, none⟩) (by first | (rw [add_block]; exact hn279_0) | (show (Addr.add _ _).block ≠ _; rw [add_block]; exact hn279_0) | exact hn279_0) (.int .i64 ((rd_T49 l0 x13_1).f0))).trans hx279_0; replace hx279_1 := (cell_far (p := ⟨gb278, 0, none⟩) (by first | (rw [add_block]; exact hn279_0) | (show (Addr.add _ _).block ≠ _; rw [add_block]; exact hn279_0) | exact hn279_0) (.int .i64 ((rd_T49 l0 x13_1).f0))).trans hx279_1; replace hx279_0 := (cell_far (p := ⟨gb278, 1, none⟩) (by first | (rw [add_block]; exact hn279_1) | (show (Addr.add _ _).block ≠ _; rw [add_block]; exact hn279_1) | exact hn279_1) (.int .i64 ((rd_T49 l0 x13_1).f1))).trans hx279_0; replace hx279_1 := (cell_far (p := ⟨gb278, 1, none⟩) (by first | (rw [add_block]; exact hn279_1) | (show (Addr.add _ _).block ≠ _; rw [add_block]; exact hn279_1) | exact hn279_1) (.int .i64 ((rd_T49 l0 x13_1).f1))).trans hx279_1; clear hn279_0; clear hn279_1; replace p279 := eq_true p279; replace q279 := eq_true q279) | ((with_reducible refine gate_dst (N := 9) rfl ?_); refine box_eventG ?hg (N := 9) ?hd (cs := #[.int .i64 0, .int .i64 0]) (t := 49) ?hr ?_; (case hd => rfl); (case hg => rfl); (case hr => first | (go_simp; done) | (go_simp; rfl)); intro gb280 hg w21 hbox hb; have n0_ := ak (blk_belowG (g := gb278) (o := .cells #[.int .i64 ((rd_T49 l0 x13_1).f0), .int .i64 ((rd_T49 l0 x13_1).f1)] 49 (0, 0)) (by (with_reducible repeat (first | refine blk_drewN ?_ _ | refine blk_drew ?_ | refine blk_alloc ?_ _)); refine blk_put (cs := #[.int .i64 ((rd_T49 l0 x13_1).f0), .int .i64 0]) ?_ 1 _ rfl; (with_reducible repeat (first | refine blk_drewN ?_ _ | refine blk_drew ?_ | refine blk_alloc ?_ _)); refine blk_put (cs := #[.int .i64 0, .int .i64 0]) ?_ 0 _ rfl; (with_reducible repeat (first | refine blk_drewN ?_ _ | refine blk_drew ?_ | refine blk_alloc ?_ _)); exact BK278.out) hb); have n1_ := ak (belowG_step (by repeat (first | (with_reducible first | exact HB.out | apply belowG_alloc | apply belowG_drewN | apply belowG_drew1 | refine belowG_set ?_ GE278.out) | exact HB.out)) hb); have n2_ := ak (hbox); have n3_ := ak ((by rw [hg]; exact (belowG_size (by repeat (first | (with_reducible first | exact HB.out | apply belowG_alloc | apply belowG_drewN | apply belowG_drew1 | refine belowG_set ?_ GE278.out) | exact HB.out))) : w.heap.size ≤ gb280)); have n4_ := ak ((by rw [hg]; exact (belowG_size (by repeat (first | (with_reducible first | exact HB.out | apply belowG_alloc | apply belowG_drewN | apply belowG_drew1 | refine belowG_set ?_ GE278.out) | exact HB.out))) : w.heap.size ≤ gb280)); have n5_ := ak ((by rw [hg]; exact Nat.ne_of_lt (blk_lt (g := gb278) (o := .cells #[.int .i64 ((rd_T49 l0 x13_1).f0), .int .i64 ((rd_T49 l0 x13_1).f1)] 49 (0, 0)) (by (with_reducible repeat (first | refine blk_drewN ?_ _ | refine blk_drew ?_ | refine blk_alloc ?_ _)); refine blk_put (cs := #[.int .i64 ((rd_T49 l0 x13_1).f0), .int .i64 0]) ?_ 1 _ rfl; (with_reducible repeat (first | refine blk_drewN ?_ _ | refine blk_drew ?_ | refine blk_alloc ?_ _)); refine blk_put (cs := #[.int .i64 0, .int .i64 0]) ?_ 0 _ rfl; (with_reducible repeat (first | refine blk_drewN ?_ _ | refine blk_drew ?_ | refine blk_alloc ?_ _)); exact BK278.out)) : gb278 ≠ gb280)); have n6_ := ak ((by rw [hg]; exact Nat.ne_of_gt (blk_lt (g := gb278) (o := .cells #[.int .i64 ((rd_T49 l0 x13_1).f0), .int .i64 ((rd_T49 l0 x13_1).f1)] 49 (0, 0)) (by (with_reducible repeat (first | refine blk_drewN ?_ _ | refine blk_drew ?_ | refine blk_alloc ?_ _)); refine blk_put (cs := #[.int .i64 ((rd_T49 l0 x13_1).f0), .int .i64 0]) ?_ 1 _ rfl; (with_reducible repeat (first | refine blk_drewN ?_ _ | refine blk_drew ?_ | refine blk_alloc ?_ _)); refine blk_put (cs := #[.int .i64 0, .int .i64 0]) ?_ 0 _ rfl; (with_reducible repeat (first | refine blk_drewN ?_ _ | refine blk_drew ?_ | refine blk_alloc ?_ _)); exact BK278.out)) : gb280 ≠ gb278)); clear BK278; clear HB; have BK278 := n0_; have HB := n1_; have BK280 := n2_; have GW280 := n3_; have GE280 := n4_; have NB278_280 := n5_; have NB280_278 := n6_; clear n0_ n1_ n2_ n3_ n4_ n5_ n6_; clear hb hbox hg; have hnb22 := NB280_278.out; have hnc22 := NB278_280.out; have hcz23_0 : w21.cell? ⟨gb280, 0, none⟩ = some (.int .i64 0) := (blk_cell BK280.out 0).trans rfl; have hcz23_1 : w21.cell? ⟨gb280, 1, none⟩ = some (.int .i64 0) := (blk_cell BK280.out 1).trans rfl; have hfz23_0 := blk_frozen BK280.out 0; have hfz23_1 := blk_frozen BK280.out 1; have hcz24_0 : w21.cell? ⟨gb278, 0, none⟩ = some (.int .i64 ((rd_T49 l0 x13_1).f0)) := (blk_cell BK278.out 0).trans rfl; have hcz24_1 : w21.cell? ⟨gb278, 1, none⟩ = some (.int .i64 ((rd_T49 l0 x13_1).f1)) := (blk_cell BK278.out 1).trans rfl; have hfz24_0 := blk_frozen BK278.out 0; have hfz24_1 := blk_frozen BK278.out 1) | (go_at_call 84; (with_reducible refine (impl_compareCells.callsB k1 ((rd_T49 l0 x13_1).f0) ((rd_T49 l0 x13_1).f1) ((rd_T49 l1 x13_1).f0) ((rd_T49 l1 x13_1).f1) t281 _ A10.out).mono ?_); rintro e w25 ⟨rfl, hb⟩; have n0_ := ak (blk_belowG (g := gb278) (o := .cells #[.int .i64 ((rd_T49 l0 x13_1).f0), .int .i64 ((rd_T49 l0 x13_1).f1)] 49 (0, 0)) (by (with_reducible repeat (first | refine blk_drewN ?_ _ | refine blk_drew ?_ | refine blk_alloc ?_ _)); refine blk_far ?_ NB278_280.out _; (with_reducible repeat (first | refine blk_drewN ?_ _ | refine blk_drew ?_ | refine blk_alloc ?_ _)); refine blk_far ?_ NB278_280.out _; (with_reducible repeat (first | refine blk_drewN ?_ _ | refine blk_drew ?_ | refine blk_alloc ?_ _)); exact BK278.out) hb); have n1_ := ak (blk_belowG (g := gb280) (o := .cells #[.int .i64 ((rd_T49 l1 x13_1).f0), .int .i64 ((rd_T49 l1 x13_1).f1)] 49 (0, 0)) (by (with_reducible repeat (first | refine blk_drewN ?_ _ | refine blk_drew ?_ | refine blk_alloc ?_ _)); refine blk_put (cs := #[.int .i64 ((rd_T49 l1 x13_1).f0), .int .i64 0]) ?_ 1 _ rfl; (with_reducible repeat (first | refine blk_drewN ?_ _ | refine blk_drew ?_ | refine blk_alloc ?_ _)); refine blk_put (cs := #[.int .i64 0, .int .i64 0]) ?_ 0 _ rfl; (with_reducible repeat (first | refine blk_drewN ?_ _ | refine blk_drew ?_ | refine blk_alloc ?_ _)); exact BK280.out) hb); have n2_ := ak (belowG_step (by repeat (first | (with_reducible first | exact HB.out | apply belowG_alloc | apply belowG_drewN | apply belowG_drew1 | refine belowG_set ?_ GE278.out | refine belowG_set ?_ GE280.out) | exact HB.out)) hb); clear BK278; clear BK280; clear HB; have BK278 := n0_; have BK280 := n1_; have HB := n2_; clear n0_ n1_ n2_; (try clear hb); (try clear hb2); (try clear hk); (try clear hi)))
         go_ret; exact ⟨eq_, by repeat (first | (with_reducible first | exact HB.out | apply belowG_alloc | apply belowG_drewN | apply belowG_drew1 | refine belowG_set ?_ GE278.out | refine belowG_set ?_ GE280.out) | exact HB.out)⟩
       ·rw [if_neg c9] at H
        exact absurd H (by simp)
     ·rw [if_neg c5] at H
      exact absurd H (by simp)
    ·rw [if_neg c4] at H
     exact absurd H (by simp)
   ·rw [if_neg c3] at H
    have c3b0 := decide_eq_false c3; clear c3
    by_cases c26 : (l0.length : Int) < (l1.length : Int)
    ·rw [if_pos c26] at H
     have c26b0 := decide_eq_true c26; have c26b1 : decide (l0.length < l1.length) = true := decide_eq_true (Int.ofNat_lt.mp c26); clear c26; obtain rfl := Option.some.inj H; go_wp2; go_ret; exact ⟨eq_, by repeat (first | (with_reducible first | exact HB.out | apply belowG_alloc | apply belowG_drewN | apply belowG_drew1) | exact HB.out)⟩
    ·rw [if_neg c26] at H
     have c26b0 := decide_eq_false c26; have c26b1 : decide (l0.length < l1.length) = false := decide_eq_false (fun h => c26 (Int.ofNat_lt.mpr h)); clear c26; obtain rfl := Option.some.inj H; go_wp2; go_ret; exact ⟨eq_, by repeat (first | (with_reducible first | exact HB.out | apply belowG_alloc | apply belowG_drewN | apply belowG_drew1) | exact HB.out)⟩
set_option maxHeartbeats 8000000 in
set_option maxRecDepth 100000 in
theorem impl_CountBodies_1.callsB (k : Nat) (A0 : Option Addr) (c0 : Nat) (l0 : List (S49)) (A1 : Option Addr) (c1 : Nat) (l1 : List (S49)) (r : Int) (w : World) (hr0 : Kd.C k49 w A0 l0.length l0) (hc0 : l0.length ≤ c0) (hr1 : Kd.C k49 w A1 l1.length l1) (hc1 : l1.length ≤ c1) (h : impl_CountBodies_1.f k l0 l1 = some r) :
  Calls Try.prog 82 #[.slice A0 l0.length c0, .slice A1 l1.length c1] w fun e w' => e = .returned (.int .i64 r) ∧ BelowG w.heap.size w w' := by
 have HR0 := ak hr0; have HC0 := ak hc0; clear hr0 hc0; have HR1 := ak hr1; have HC1 := ak hc1; clear hr1 hc1; have HB := ak (BelowG.refl w.heap.size w); have H : ((slices_CompareFunc_compareCells.f k l0 l1).bind fun t282 => (some t282)) = some r := h; clear h; obtain ⟨t282, A30, H⟩ := Option.bind_eq_some_iff.mp H
 (try dsimp only at H)
 have A3 := ak A30; clear A30; obtain rfl := Option.some.inj H
 go_enter Try.func82, Try.ntmps82
 go_wp2_with (first | ((with_reducible refine gate_callee (f := 83) rfl ?_); refine goesL_ (some 7) rfl rfl Try.func83 (by kernel_rfl) rfl #[.slice A0 l0.length c0, .slice A1 l1.length c1, .func (.func 84) #[] #[]] rfl aq ?_; (with_reducible refine (slices_CompareFunc_compareCells.callsB k _ _ l0 _ _ l1 t282 _ ?side1 ?side2 ?side3 ?side4 A3.out).mono ?_); (case side1 => exact cq HR0.out); (case side2 => exact HC0.out); (case side3 => exact cq HR1.out); (case side4 => exact HC1.out); rintro e w4 ⟨rfl, hb⟩; refine ⟨_, rfl, ?_⟩; have n0_ := ak (belowG_step (by repeat (first | (with_reducible first | exact HB.out | apply belowG_alloc | apply belowG_drewN | apply belowG_drew1) | exact HB.out)) hb); clear HB; have HB := n0_; clear n0_; (try clear hb); (try clear hb2); (try clear hk); (try clear hi)))
 go_ret; exact ⟨eq_, by repeat (first | (with_reducible first | exact HB.out | apply belowG_alloc | apply belowG_drewN | apply belowG_drew1) | exact HB.out)⟩
/-! the order of bodies: by the numbers of their cells, one behind the other -/
def flB : List (S49) → List Int
 | [] => []
 | c :: r => c.f0 :: c.f1 :: flB r
theorem flB_inj : ∀ x y : List (S49), flB x = flB y → x = y := by
 intro x
 induction x with
 | nil => intro y h; cases y with
  | nil => rfl
  | cons b y => simp [flB] at h
 | cons a x ih => intro y h; cases y with
  | nil => simp [flB] at h
  | cons b y =>
   simp only [flB, List.cons.injEq] at h; obtain ⟨h0, h1, h2⟩ := h; rw [ih y h2]; cases a; cases b; simp_all
def lxB : List Int → List Int → Bool
 | a :: x, b :: y => decide (a < b) || (decide (a = b) && lxB x y)
 | [], _ :: _ => true
 | _, [] => false
theorem lxB_irrefl : ∀ x, lxB x x = false := by
 intro x
 induction x with
 | nil => rfl
 | cons a x ih => simp [lxB, ih]
theorem lxB_trans : ∀ x y z, lxB x y = true → lxB y z = true → lxB x z = true := by
 intro x
 induction x with
 | nil => intro y z h1 h2; cases y with
  | nil => simp [lxB] at h1
  | cons b y => cases z with
   | nil => simp [lxB] at h2
   | cons c z => rfl
 | cons a x ih => intro y z h1 h2; cases y with
  | nil => simp [lxB] at h1
  | cons b y => cases z with
   | nil => simp [lxB] at h2
   | cons c z =>
    simp only [lxB, Bool.or_eq_true, Bool.and_eq_true, decide_eq_true_eq] at h1 h2 ⊢
    rcases h1 with h1 | ⟨h1, h1'⟩
    ·rcases h2 with h2 | ⟨h2, h2'⟩
     ·exact Or.inl (by omega)
     ·exact Or.inl (by omega)
    ·rcases h2 with h2 | ⟨h2, h2'⟩
     ·exact Or.inl (by omega)
     ·exact Or.inr ⟨by omega, ih y z h1' h2'⟩
theorem lxB_anti : ∀ x y, lxB x y = false → lxB y x = false → x = y := by
 intro x
 induction x with
 | nil => intro y h1 h2; cases y with
  | nil => rfl
  | cons b y => simp [lxB] at h1
 | cons a x ih => intro y h1 h2; cases y with
  | nil => simp [lxB] at h2
  | cons b y =>
   simp only [lxB, Bool.or_eq_false_iff, Bool.and_eq_false_iff, decide_eq_false_iff_not] at h1 h2
   have hab : a = b := by omega
   subst hab; have e := ih y (h1.2.resolve_left (fun q => q rfl)) (h2.2.resolve_left (fun q => q rfl)); rw [e]
theorem lxB_ntrans (x y z : List Int) (h1 : lxB x y = false) (h2 : lxB y z = false) : lxB x z = false := by
 cases h1' : lxB y x with
 | false => rw [lxB_anti x y h1 h1']; exact h2
 | true =>
  cases h2' : lxB z y with
  | false => rw [← lxB_anti y z h2 h2']; exact h1
  | true =>
   cases h3 : lxB x z with
   | false => rfl
   | true =>
    have := lxB_trans _ _ _ h3 (lxB_trans _ _ _ h2' h1'); rw [lxB_irrefl] at this; cases this
def ltB (x y : List (S49)) : Bool := lxB (flB x) (flB y)
theorem ltB_anti (x y : List (S49)) (h1 : ltB x y = false) (h2 : ltB y x = false) : x = y := flB_inj x y (lxB_anti _ _ h1 h2)
/-- Bodies in order. -/
def sortB (l : List (List (S49))) : List (List (S49)) := l.mergeSort fun x y => !ltB y x
theorem sortB_perm (l : List (List (S49))) : (sortB l).Perm l := List.mergeSort_perm _ _
theorem sortB_sorted (l : List (List (S49))) : (sortB l).Pairwise fun x y => ltB y x = false := by
 have h := List.pairwise_mergeSort (le := fun x y : List (S49) => !ltB y x) (fun a b c h1 h2 => by
  simp only [Bool.not_eq_true'] at h1 h2 ⊢
  exact lxB_ntrans _ _ _ h2 h1) (fun a b => by
  cases h1 : ltB b a with
  | false => rfl
  | true =>
   cases h2 : ltB a b with
   | false => rfl
   | true => have := lxB_trans _ _ _ h1 h2; rw [lxB_irrefl] at this; cases this) l
 exact h.imp (fun q => by simpa using q)
theorem sortB_unique {A l : List (List (S49))} (hp : A.Perm l) (hs : A.Pairwise fun x y => ltB y x = false) : A = sortB l :=
 List.Perm.eq_of_pairwise (le := fun x y => ltB y x = false) (fun a b _ _ h1 h2 => ltB_anti a b h2 h1) hs (sortB_sorted l) (hp.trans (sortB_perm l).symm)
/-! what the closure says -/
def cmB : List (S49) → List (S49) → Int
 | a :: x, b :: y => if cmpC a b = 0 then cmB x y else cmpC a b
 | [], _ :: _ => -1
 | _ :: _, [] => 1
 | [], [] => 0
theorem cmB_lt : ∀ x y : List (S49), decide (cmB x y < 0) = ltB x y := by
 intro x
 induction x with
 | nil => intro y; cases y with
  | nil => rfl
  | cons b y => rfl
 | cons a x ih => intro y; cases y with
  | nil => rfl
  | cons b y =>
   have e := ih y
   unfold ltB at e ⊢
   show decide ((if cmpC a b = 0 then cmB x y else cmpC a b) < 0) = (decide (a.f0 < b.f0) || (decide (a.f0 = b.f0) && (decide (a.f1 < b.f1) || (decide (a.f1 = b.f1) && lxB (flB x) (flB y)))))
   rw [← e]
   unfold cmpC
   by_cases h0 : a.f0 < b.f0
   ·simp [h0]
   ·by_cases h1 : b.f0 < a.f0
    ·have h2 : ¬ a.f0 = b.f0 := by omega
     simp [h0, h1, h2]
    ·have h2 : a.f0 = b.f0 := by omega
     by_cases h3 : a.f1 < b.f1
     ·simp [h2, h3]
     ·by_cases h4 : b.f1 < a.f1
      ·have h5 : ¬ a.f1 = b.f1 := by omega
       simp [h2, h3, h4, h5]
      ·have h5 : a.f1 = b.f1 := by omega
       simp [h2, h5]
theorem rdSort {l : List (S49)} {i : Nat} (h : i < l.length) : rd_T49 l (i : Int) = l[i] := by
 unfold rd_T49; rw [Int.toNat_natCast, List.getD_eq_getElem?_getD, List.getElem?_eq_getElem h]; rfl
theorem compareCells_val' (k : Nat) (x y : S49) : impl_compareCells.f (k + 4) x.f0 x.f1 y.f0 y.f1 = some (cmpC x y) := by
 induction k with
 | zero => exact compareCells_val x y
 | succ k ih => exact impl_compareCells.mono _ _ _ _ _ _ ih
theorem compareFunc_l0 (x y : List (S49)) (hx : x.length ≤ 9223372036854775807) : ∀ d i : Nat, i + d = x.length → i ≤ y.length → ∃ k, slices_CompareFunc_compareCells.l0 k x y x (x.length : Int) (i : Int) = some (cmB (x.drop i) (y.drop i)) := by
 intro d
 induction d with
 | zero =>
  intro i hi hy; have e1 : x.drop i = [] := List.drop_eq_nil_of_le (by omega); refine ⟨1, ?_⟩; simp only [slices_CompareFunc_compareCells.l0]; rw [if_neg (by omega), e1]
  by_cases h : (x.length : Int) < (y.length : Int)
  ·rw [if_pos h, List.drop_eq_getElem_cons (show i < y.length by omega)]; rfl
  ·rw [if_neg h, List.drop_eq_nil_of_le (show y.length ≤ i by omega)]; rfl
 | succ d ih =>
  intro i hi hy
  have h1 : i < x.length := by omega
  by_cases h2 : i < y.length
  ·obtain ⟨k, ih⟩ := ih (i + 1) (by omega) (by omega)
   have hw : wrap64 ((i : Int) + 1) = ((i + 1 : Nat) : Int) := by unfold wrap64; omega
   have up : ∀ m, slices_CompareFunc_compareCells.l0 (k + m) x y x (x.length : Int) ((i + 1 : Nat) : Int) = some (cmB (x.drop (i + 1)) (y.drop (i + 1))) := by
    intro m
    induction m with
    | zero => exact ih
    | succ m ihm => exact slices_CompareFunc_compareCells.mono_l _ _ _ _ _ _ _ ihm
   have u4 := up 4; have v4 := compareCells_val' k x[i] y[i]
   generalize k + 4 = K at u4 v4
   refine ⟨K + 1, ?_⟩; simp only [slices_CompareFunc_compareCells.l0]; rw [if_pos (by omega), if_pos (by omega), if_pos (by omega), if_neg (by omega), if_pos (by omega), rdSort h1, rdSort h2, v4, hw, Option.bind_some, u4, List.drop_eq_getElem_cons h1, List.drop_eq_getElem_cons h2]; simp only [cmB]
   split <;> rfl
  ·refine ⟨1, ?_⟩
   simp only [slices_CompareFunc_compareCells.l0]; rw [if_pos (by omega), if_pos (by omega), if_pos (by omega), if_pos (by omega), List.drop_eq_getElem_cons h1, List.drop_eq_nil_of_le (show y.length ≤ i by omega)]
   rfl
theorem countBodies1_val (x y : List (S49)) (hx : x.length ≤ 9223372036854775807) : ∃ k, impl_CountBodies_1.f k x y = some (cmB x y) := by
 obtain ⟨k, e⟩ := compareFunc_l0 x y hx x.length 0 (by omega) (Nat.zero_le _); refine ⟨k, ?_⟩
 unfold impl_CountBodies_1.f slices_CompareFunc_compareCells.f
 rw [show ((0 : Nat) : Int) = 0 from rfl] at e; rw [e]; rfl
/-! the sort -/
def slices_SortFunc_CountBodies_1.f (l0 : List (List (S49))) : Option (List (List (S49))) := if 0 < l0.length ∧ l0.length < 4611686018427387904 then some (sortB l0) else none
theorem sortB_heap {α : Type} [Inhabited α] (enc : α → Value) {w : World} {g n : Nat} {os : Array Obj} {cur : Array Value} {e : TypeId} {fr : Nat × Nat} (F : Array α) (hb : w.heap[g]? = some (.cells cur e fr)) :
  (Go.Sort.grow (Go.Sort.putRow enc (Go.Sort.ahead w n) g 0 F) os).heap[g]? = some (.cells (Go.Sort.putCells enc 0 F cur) e fr) := by
 have hg : g < w.heap.size := (Array.getElem?_eq_some_iff.1 hb).1; rw [Go.Sort.heap_grow_old _ _ (by simpa [Go.Sort.putRow, Go.Sort.mapBlock, Go.Sort.ahead] using hg)]
 simp [Go.Sort.putRow, Go.Sort.mapBlock, Go.Sort.ahead, Array.getElem?_modify, hb, Go.Sort.onCells]
theorem sortB_grown {α : Type} [Inhabited α] (enc : α → Value) {w : World} {g n : Nat} {os : Array Obj} (F : Array α) : w.grownBy (Go.Sort.grow (Go.Sort.putRow enc (Go.Sort.ahead w n) g 0 F) os) (some g) := by
 refine ⟨rfl, rfl, rfl, by simp [Go.Sort.grow, Go.Sort.putRow, Go.Sort.mapBlock, Go.Sort.ahead], fun k hk hne => ?_⟩; rw [Go.Sort.heap_grow_old _ _ (by simpa [Go.Sort.putRow, Go.Sort.mapBlock, Go.Sort.ahead] using hk)]
 have : g ≠ k := fun e => hne (by rw [e])
 simp [Go.Sort.putRow, Go.Sort.mapBlock, Go.Sort.ahead, Array.getElem?_modify, this]
theorem sortB_cells {α : Type} [Inhabited α] (enc : α → Value) (cur : Array Value) (F : Array α) (h : F.size ≤ cur.size) : (Go.Sort.putCells enc 0 F cur).toList.take F.size = F.toList.map enc := by
 apply List.ext_getElem?
 intro j
 by_cases hj : j < F.size
 ·rw [List.getElem?_take_of_lt hj, Array.getElem?_toList, List.getElem?_map, Array.getElem?_toList, Array.getElem?_eq_getElem hj]
  have h2 : j < cur.size := by omega
  simp [Go.Sort.putCells, hj, h2, getElem!_pos F j hj]
 ·rw [List.getElem?_take_eq_none (by omega), List.getElem?_eq_none (by simpa using hj)]
abbrev kB := Kd.slice 49 k49
/-- What is known of an element: its value, and its list. -/
def EB (w : World) (ok : Nat → Prop) (g : Nat) (x : Value × List (S49)) : Prop := Kd.FK kB w (fun k => ok k ∧ some k ≠ some g) x.2 [x.1]
theorem EB_reads {w W : World} {ok : Nat → Prop} {g : Nat} {x : Value × List (S49)} (h : EB w ok g x) (hW : ∀ k, k < w.heap.size → k ≠ g → W.heap[k]? = w.heap[k]?) : ∃ A c, x.1 = .slice A x.2.length c ∧ x.2.length ≤ c ∧ Kd.C k49 W A x.2.length x.2 := by
 obtain ⟨A, c, he, hl, hF⟩ := Kd.FK_slice_open (Kd.FK_step (W1 := W) h (fun k hk hlt => hW k hlt (fun e => hk.2 (by rw [e]))))
 injection he with he
 exact ⟨A, c, he, hl, Kd.F_now hF⟩
instance instEB (w : World) (ok : Nat → Prop) (g : Nat) : Inhabited { x : Value × List (S49) // EB w ok g x } := ⟨⟨(.slice none 0 0, []), Kd.FK_slice_mk (Nat.le_refl 0) (fun W' _ => ⟨rfl, Nat.zero_le _, fun hp => absurd hp (Nat.lt_irrefl 0)⟩)⟩⟩
set_option maxHeartbeats 4000000 in
set_option maxRecDepth 100000 in
theorem slices_SortFunc_CountBodies_1.calls (ok : Nat → Prop) (v : Value) (l r : List (List (S49))) (w0 w : World) (hB : Below w0.heap.size w0 w) (ho : Kd.N kB 22 w w0.heap.size ok v l) (h : slices_SortFunc_CountBodies_1.f l = some r) :
  Calls Try.prog 81 #[v, .func (.func 82) #[] #[]] w fun e w' => e = .returned (.tuple #[]) ∧ Kd.N kB 22 w' w0.heap.size ok v r ∧ Below w0.heap.size w0 w' := by
 unfold slices_SortFunc_CountBodies_1.f at h
 by_cases hz : ¬ (0 < l.length ∧ l.length < 4611686018427387904)
 ·rw [if_neg hz] at h; cases h
 have hl := Classical.not_not.1 hz; rw [if_pos hl] at h; obtain rfl := Option.some.inj h; obtain ⟨hown, rows, hrl, ⟨hok, inner, ⟨ho1, ho2⟩, hr⟩, hf⟩ := ho; have hsz : kB.sz = 1 := rfl; rw [hsz] at ho1 ho2 hr
 rcases ho2 with ⟨_, hn⟩ | ⟨g, cap, cur, rfl, hbase, hcur, h1, h2, h3, h4⟩
 ·omega
 have hsz2 : (Kd.raw 1).sz = 1 := rfl; rw [hsz2, Nat.mul_one] at ho1 h3 h4; rw [hsz2] at hr; rw [hrl] at ho1 h1 h4
 have hrow : ∀ j (hj : j < l.length), rows[j]? = some [inner[j]'(by omega)] := by
  intro j hj; have q := hr.2 j (rows[j]'(by omega)) (List.getElem?_eq_getElem (by omega)); have q1 := q.1; rw [Nat.mul_one, List.drop_eq_getElem_cons (by omega)] at q1; rw [List.getElem?_eq_getElem (by omega), ← q1]; rfl
 have hel : ∀ j (hj : j < l.length), EB w ok g (inner[j]'(by omega), l[j]) := by
  intro j hj; exact hf j l[j] _ (List.getElem?_eq_getElem hj) (hrow j hj)
 obtain ⟨E, hE⟩ : ∃ E : List { x : Value × List (S49) // EB w ok g x }, E = List.ofFn (n := l.length) fun j => ⟨(inner[j.1]'(by have := j.2; omega), l[j.1]'j.2), hel j.1 j.2⟩ := ⟨_, rfl⟩
 have hEl : E.length = l.length := by rw [hE]; simp
 have hE0 : ∀ j (hj : j < l.length), (E[j]'(by omega)).1 = (inner[j]'(by omega), l[j]) := by
  intro j hj; subst hE; simp
 obtain ⟨enc, henc⟩ : ∃ enc : { x : Value × List (S49) // EB w ok g x } → Value, enc = fun x => x.1.1 := ⟨_, rfl⟩
 have henc0 : ∀ x, enc x = x.1.1 := fun x => by rw [henc]
 have hmap2 : E.map (fun x => x.1.2) = l := by
  apply List.ext_getElem (by simpa using hEl)
  intro j ha hb; rw [List.getElem_map, hE0 j hb]
 have h1c : OneCell enc := by
  intro x; rw [henc0]; obtain ⟨A, c, e, _⟩ := EB_reads x.2 (fun _ _ _ => rfl); rw [e]; rfl
 have hH : Go.Sort.Holds enc w g 0 E.toArray := by
  intro j hj
  have hj' : j < l.length := by simpa [hEl] using hj
  refine ⟨?_, by simp [World.frozen?, hcur]⟩; rw [getElem!_pos E.toArray j hj, henc0]; have e0 := hE0 j hj'
  have e1 : E.toArray[j] = E[j]'(by omega) := by simp
  rw [e1, e0]
  have q : (cur.toList.take l.length)[j]? = inner[j]? := by rw [h4]
  rw [List.getElem?_take_of_lt hj', Array.getElem?_toList, List.getElem?_eq_getElem (by omega)] at q; simp only [World.cell?, hcur, Nat.zero_add]; simp only [Option.isSome_none, Bool.false_eq_true, if_false]; exact q
 have hblk : g < w.heap.size := (Array.getElem?_eq_some_iff.1 hcur).1; have eg : ∀ args W, (callFunc 82 args).run Try.prog W = .ok (.enter 82 args) W := enters_of Try.func82 (by kernel_rfl) rfl
 obtain ⟨cf, hcf⟩ : ∃ cf : { x : Value × List (S49) // EB w ok g x } → { x : Value × List (S49) // EB w ok g x } → Int, cf = fun x y => cmB x.1.2 y.1.2 := ⟨_, rfl⟩
 have hlt : ∀ x y, ltOf cf x y = ltB x.1.2 y.1.2 := by
  intro x y
  unfold ltOf
  rw [hcf]; exact cmB_lt _ _
 have hswo : Go.Sort.SWO (ltOf cf) := ⟨fun x => by rw [hlt]; exact lxB_irrefl _, fun x y z a b => by rw [hlt] at *; exact lxB_trans _ _ _ a b, fun x y z a b => by rw [hlt] at *; exact lxB_ntrans _ _ _ a b⟩
 have hcmp : CmpLays1 Try.prog 82 #[] enc cf g 0 E.toArray.size w := by
  intro m os dk hs x y; have hgr := sortB_grown (w := w) (g := g) (n := m) (os := os) enc dk
  have hst : ∀ k, k < w.heap.size → k ≠ g → (sortWorld enc w g 0 m dk os).heap[k]? = w.heap[k]? := fun k hk hne => hgr.block k hk (fun q => hne (by injection q))
  obtain ⟨A, c, e1, l1, c1⟩ := EB_reads x.2 hst; obtain ⟨A', c', e2, l2, c2⟩ := EB_reads y.2 hst; obtain ⟨k, hk⟩ := countBodies1_val x.1.2 y.1.2 c1.2.1; have key := impl_CountBodies_1.callsB k A c x.1.2 A' c' y.1.2 (cmB x.1.2 y.1.2) (sortWorld enc w g 0 m dk os) c1 l1 c2 l2 hk; rw [henc0, henc0, e1, e2]; refine key.mono ?_
  rintro e w' ⟨he, hb⟩
  exact ⟨by rw [hcf]; exact he, belowG_grow hb⟩
 have hbig : E.toArray.size < 4611686018427387904 := by simpa [hEl] using hl.2
 have hcon := Any.slices_SortFunc Try.sortBodies enc h1c cf hswo 82 #[] g 0 cap E.toArray w eg hcmp hH hblk hbig
 have hcon2 : Calls Try.prog 81 #[.slice (some ⟨g, 0, none⟩) l.length cap, .func (.func 82) #[] #[]] w fun e w' => e = .returned (.tuple #[]) ∧ ∃ d' n os, Go.Sort.PermIn 0 E.toArray.size E.toArray d' ∧ Go.Sort.SortedIn (ltOf cf) 0 E.toArray.size d' ∧ w' = sortWorld enc w g 0 n d' os := by
  have e : E.toArray.size = l.length := by simpa using hEl
  rw [← e]; exact hcon
 rw [hrl]; refine hcon2.mono ?_
 rintro e w' ⟨rfl, d', n, os, hp, hs, rfl⟩
 have hds : d'.size = l.length := by rw [hp.1]; simpa using hEl
 have hes : E.toArray.size = l.length := by simpa using hEl
 have hperm : d'.toList.Perm E := by
  have q := hp.2.2; rw [hes] at q; rw [show d'.extract 0 l.length = d' from by rw [← hds]; simp, show E.toArray.extract 0 l.length = E.toArray from by rw [← hes]; simp] at q
  simpa using q
 have hsorted : d'.toList.map (fun x => x.1.2) = sortB l := by
  refine sortB_unique (by rw [← hmap2]; exact hperm.map _) ?_; rw [List.pairwise_map, List.pairwise_iff_getElem]; intro i j hi hj hij
  have hi' : i < d'.size := by simpa using hi
  have hj' : j < d'.size := by simpa using hj
  have q := hs i j (Nat.zero_le _) hij (by rw [hes, ← hds]; exact hj'); rw [hlt, getElem!_pos d' i hi', getElem!_pos d' j hj'] at q; rw [Array.getElem_toList, Array.getElem_toList]; exact q
 have hgr := sortB_grown (w := w) (g := g) (n := n) (os := os) enc d'
 have hdl : d'.toList.length = l.length := by rw [Array.length_toList, hds]
 have hlen : (sortB l).length = l.length := by rw [← hsorted, List.length_map, hdl]
 have hml : (d'.toList.map fun x => [enc x]).length = l.length := by rw [List.length_map, hdl]
 refine ⟨rfl, ⟨fun k hk => hown k (by rw [hrl]; exact hk), d'.toList.map (fun x => [enc x]), by rw [hml, hlen], ⟨fun k hk => hk.symm, d'.toList.map enc, ⟨?_, Or.inr ⟨g, cap, _, ?_, hbase, sortB_heap enc d' hcur, ?_, h2, ?_, ?_⟩⟩, ?_, ?_⟩, ?_⟩, hB.grown hgr hB.size (fun k hk => by cases hk; exact hbase)⟩
 ·rw [hml, List.length_map, hdl]; exact (Nat.mul_one _).symm
 ·rw [hml]
 ·rw [hml]; exact h1
 ·show (Go.Sort.putCells enc 0 d' cur).size = cap * 1
  rw [Nat.mul_one]; simpa [Go.Sort.putCells] using h3
 ·rw [hml]
  show (Go.Sort.putCells enc 0 d' cur).toList.take (l.length * 1) = _
  rw [Nat.mul_one, ← hds]; exact sortB_cells enc cur d' (by omega)
 ·rw [hml, List.length_map, hdl]; exact (Nat.mul_one _).symm
 ·intro i p hip
  rw [List.getElem?_map] at hip; obtain ⟨x, hx, rfl⟩ := Option.map_eq_some_iff.1 hip; have hi : i < d'.toList.length := (List.getElem?_eq_some_iff.1 hx).1
  have ec : ((d'.toList.map enc).drop (i * 1)).take 1 = [enc x] := by
   rw [Nat.mul_one, List.drop_eq_getElem_cons (by simpa using hi), List.getElem_map]; rw [List.getElem?_eq_getElem hi] at hx; rw [Option.some.inj hx]; rfl
  have ec' : ((d'.toList.map enc).drop (i * (Kd.raw kB.sz).sz)).take (Kd.raw kB.sz).sz = [enc x] := ec; exact ⟨ec', by rw [ec']; rfl, fun u hu => by rw [ec'] at hu; rw [List.mem_singleton.1 hu]; exact h1c x⟩
 ·intro j x c hx hc
  rw [← hsorted, List.getElem?_map] at hx; obtain ⟨y, hy, rfl⟩ := Option.map_eq_some_iff.1 hx; rw [List.getElem?_map, hy] at hc; have hc := Option.some.inj hc; subst hc
  show Kd.FK kB _ _ y.1.2 [enc y]
  rw [henc0]; exact Kd.FK_step y.2 (fun k hk hlt => hgr.block k hlt (fun q => hk.2 q))
theorem slices_SortFunc_CountBodies_1.mono : True := trivial

end Go.Proofs.Ytckhmeadflafaaa.XCb
