/- Functions of the program as plain Lean functions, each with the proof that the machine's call does what it says: written by a program of this session out of the translation. -/
import Derived.Deep.RegionLaw
import Derived.Lib.SliceRun
import Derived.Lib.Hide
import Derived.Test.YtckhmeadflafaaaXCbx0
import Derived.Test.YtckhmeadflafaaaXCbx1
namespace Go.Proofs.Ytckhmeadflafaaa.XCb
open Go.RowKit Go.Proofs.YtckhmeadflafaaaW.PrintWords Go.Proofs.YtckhmeadflafaaaW.PrintLast Go.Proofs.YtckhmeadflafaaaW.PrintMore
attribute [local go_sem] max2_int min2_int max_two min_two max_three min_three max_four min_four   -- for this text's walks alone
set_option linter.unusedVariables false
set_option linter.unusedSimpArgs false

attribute [local go_sem high] eqA49
/-! ### slices_Compact: function 114 -/
mutual
def slices_Compact.l0 : Nat → List (S49) → Int → Option ((List (S49)))
 | 0, _, _ => none
 | k + 1, x0, x3 => if x3 < (x0.length : Int) then (if 0 ≤ x3 then (if 0 ≤ (wrap64 (x3 - 1)) then (if (wrap64 (x3 - 1)) < (x0.length : Int) then (if (((rd_T49 x0 x3).f0) == ((rd_T49 x0 (wrap64 (x3 - 1))).f0) && (((rd_T49 x0 x3).f1) == ((rd_T49 x0 (wrap64 (x3 - 1))).f1))) = true then (if x3 ≤ (x0.length : Int) then (slices_Compact.l1 k x0 x3 (x3 : Int).toNat (x0.length - (x3 : Int).toNat) 1) else (none)) else (slices_Compact.l0 k x0 (wrap64 (x3 + 1)))) else (none)) else (none)) else (none)) else (some x0)
def slices_Compact.l1 : Nat → List (S49) → Int → Nat → Nat → Int → Option ((List (S49)))
 | 0, _, _, _, _, _ => none
 | k + 1, x0, x3, m4, n4, x5 => if x5 < (n4 : Int) then (if 0 ≤ x5 then (if 0 ≤ (wrap64 (x5 - 1)) then (if (wrap64 (x5 - 1)) < (n4 : Int) then (if (!(((rd_T49 (x0.drop m4) x5).f0) == ((rd_T49 (x0.drop m4) (wrap64 (x5 - 1))).f0)) || (!(((rd_T49 (x0.drop m4) x5).f1) == ((rd_T49 (x0.drop m4) (wrap64 (x5 - 1))).f1)))) = true then (if 0 ≤ x3 then (if x3 < (x0.length : Int) then (slices_Compact.l1 k (x0.set (x3 : Int).toNat (⟨(rd_T49 (x0.drop m4) x5).f0, (rd_T49 (x0.drop m4) x5).f1⟩ : S49)) (wrap64 (x3 + 1)) m4 n4 (wrap64 (x5 + 1))) else (none)) else (none)) else (slices_Compact.l1 k x0 x3 m4 n4 (wrap64 (x5 + 1)))) else (none)) else (none)) else (none)) else (if 0 ≤ x3 then (if x3 < (x0.length : Int) then (some (x0.take (x3 : Int).toNat)) else (none)) else (none))
end
def slices_Compact.f (k : Nat) (l0 : List (S49)) : Option ((List (S49))) := if (l0.length : Int) < 2 then (some l0) else (slices_Compact.l0 k l0 1)
theorem slices_Compact.setCells_blk {g : Nat} {t : TypeId} : ∀ (vs : List Value) (o : Nat) {w : World} {cs : Array Value}, w.heap[g]? = some (.cells cs t (0, 0)) → ∃ cs', (w.setCells g o vs).heap[g]? = some (.cells cs' t (0, 0)) ∧ cs'.size = cs.size ∧ (∀ i, i < o → cs'[i]? = cs[i]?) ∧ w.grownBy (w.setCells g o vs) (some g) := by
 intro vs
 induction vs with
 | nil => intro o w cs h; exact ⟨cs, h, rfl, fun _ _ => rfl, ⟨rfl, rfl, rfl, Nat.le_refl _, fun _ _ _ => rfl⟩⟩
 | cons v r ih =>
  intro o w cs h; have h1 := blk_set h o v; obtain ⟨cs', e1, e2, e3, e4⟩ := ih (o + 1) h1; refine ⟨cs', e1, by rw [e2]; simp, fun i hi => ?_, ?_⟩
  ·rw [e3 i (by omega), Array.getElem?_setIfInBounds_ne (by omega)]
  ·have g1 : w.grownBy (w.setCell ⟨g, o, none⟩ v) (some g) := ⟨(Below.setCell (Below.refl 0 w) (Nat.zero_le _) v).os, (Below.setCell (Below.refl 0 w) (Nat.zero_le _) v).tape, (Below.setCell (Below.refl 0 w) (Nat.zero_le _) v).output, by simp, fun k hk hne => Below.heap_setCell w ⟨g, o, none⟩ v k (fun e => hne (by rw [e]))⟩
   exact World.grownBy.trans g1 e4
/-- The cells behind a row's elements are set to zero: the row stays. -/
theorem slices_Compact.R_clear {α : Type} (d : Kd α) {W : World} {base e g n c m c2 : Nat} {xs : List α} {ok : Nat → Prop} (t : TypeId) (z : Value) (ht : Try.prog.underlying t = some (.slice e)) (hv : ∀ w, (zeroValue e).run Try.prog w = .ok z w) (hzs : z.cells.size = d.sz) (h1 : ∀ u ∈ z.cells, u.oneCell' = true) (hd0 : 0 < d.sz) (hM : ∀ (W W' : World) (base : Nat) (ok : Nat → Prop) p c, d.M W base ok p c → d.M W' base ok p c)
  (HO : d.R e W base ok (.slice (some ⟨g, 0, none⟩) n c) xs) (hm : n + m ≤ c) (hm0 : 0 < m) :
  ∃ w1, (∀ ty, (Builtin.clear_ #[t] ty #[.slice (some ⟨g, n * d.sz, none⟩) m c2]).run Try.prog W = .ok (.tuple #[]) w1) ∧ d.R e w1 base ok (.slice (some ⟨g, 0, none⟩) n c) xs ∧ W.grownBy w1 (some g) := by
 obtain ⟨hok, inner, ⟨ho1, ho2⟩, hr⟩ := HO
 rcases ho2 with ⟨hv', _⟩ | ⟨g', cap', cur, hv', hb, hh, h2, hcm, hcs, htake⟩
 ·cases hv'
 injection hv' with ha hn hc
 injection ha with ha
 injection ha with hg
 subst hg; subst hc; subst hn
 have hzl : (Builtin.zeroCells z.cells m).toList.length = m * d.sz := by simp [Builtin.zeroCells, hzs]
 obtain ⟨cs', e1, e2, e3, e4⟩ := slices_Compact.setCells_blk (Builtin.zeroCells z.cells m).toList (xs.length * d.sz) hh; have hmul : (xs.length + m) * d.sz ≤ c * d.sz := Nat.mul_le_mul_right _ hm; rw [Nat.add_mul] at hmul
 have hcell : ∀ j, j < m * d.sz → (W.cell? ⟨g, xs.length * d.sz + 0 + j, none⟩).isSome = true := by
  intro j hj; rw [blk_cell hh, Array.getElem?_eq_getElem (by rw [hcs]; omega)]; rfl
 refine ⟨W.setCells g (xs.length * d.sz) (Builtin.zeroCells z.cells m).toList, fun ty => ?_, ⟨hok, inner, ⟨ho1, Or.inr ⟨g, c, cs', rfl, hb, e1, h2, hcm, by rw [e2]; exact hcs, ?_⟩⟩, hr.imp_ (fun p c hp => hM _ _ _ _ _ _ hp)⟩, e4⟩
 ·have hst := run_storeCells_cells (P := Try.prog) g (xs.length * d.sz) (Builtin.zeroCells z.cells m).toList 0 W (by rw [hzl]; exact hcell) (by intro j _; exact blk_frozen hh _) (by
   intro v hv2; simp only [Builtin.zeroCells, Array.toList_map, List.mem_map] at hv2; obtain ⟨i, hi, rfl⟩ := hv2; have hlt : i % z.cells.size < z.cells.size := Nat.mod_lt _ (by omega); rw [getElem!_pos z.cells _ hlt]
   exact h1 _ (Array.getElem_mem hlt))
  simp only [Nat.add_zero] at hst; obtain ⟨m', rfl⟩ : ∃ m', m = m' + 1 := ⟨m - 1, by omega⟩
  simp [Builtin.clear_, run_underlying ht, hv, hst]
 ·rw [← htake]
  apply List.ext_getElem?
  intro i
  by_cases hi : i < xs.length * d.sz
  ·rw [List.getElem?_take_of_lt hi, List.getElem?_take_of_lt hi, Array.getElem?_toList, Array.getElem?_toList, e3 i hi]
  ·rw [List.getElem?_take_eq_none (by omega), List.getElem?_take_eq_none (by omega)]
theorem slices_Compact.M (W W' : World) (base : Nat) (ok : Nat → Prop) (p : S49) (c : List Value) (h : k49.M W base ok p c) : k49.M W' base ok p c := by
 have e := k49_openM h; rw [e]; exact k49_mkM _ _ _ p
theorem slices_Compact.zero (w : World) : (zeroValue 49).run Try.prog w = .ok (.agg #[.int .i64 0, .int .i64 0]) w := by kernel_rfl
theorem slices_Compact.mono_l : ∀ k, (∀ y0 y1, LeO (slices_Compact.l0 k y0 y1) (slices_Compact.l0 (k + 1) y0 y1)) ∧ (∀ y0 y1 y2 y3 y4, LeO (slices_Compact.l1 k y0 y1 y2 y3 y4) (slices_Compact.l1 (k + 1) y0 y1 y2 y3 y4))
 | 0 => ⟨fun _ _ r h => by simp [slices_Compact.l0] at h, fun _ _ _ _ _ r h => by simp [slices_Compact.l1] at h⟩
 | k + 1 => by
  obtain ⟨ih0, ih1⟩ := slices_Compact.mono_l k; refine ⟨?_, ?_⟩
  ·intro y0 y1
   unfold slices_Compact.l0
   repeat' first
   | (with_reducible exact ih0 _ _)
   | (with_reducible exact ih1 _ _ _ _ _)
   | (with_reducible exact LeO.refl _)
   | (with_reducible exact LeO.none _)
   | (with_reducible refine LeO.ite ?_ ?_)
   | (with_reducible refine LeO.bind ?_ (fun _ => ?_))
  ·intro y0 y1 y2 y3 y4
   unfold slices_Compact.l1
   repeat' first
   | (with_reducible exact ih0 _ _)
   | (with_reducible exact ih1 _ _ _ _ _)
   | (with_reducible exact LeO.refl _)
   | (with_reducible exact LeO.none _)
   | (with_reducible refine LeO.ite ?_ ?_)
   | (with_reducible refine LeO.bind ?_ (fun _ => ?_))
theorem slices_Compact.mono : ∀ a0 k, LeO (slices_Compact.f k a0) (slices_Compact.f (k + 1) a0) := by
 intro a0 k; obtain ⟨ih0, ih1⟩ := slices_Compact.mono_l k
 unfold slices_Compact.f
 repeat' first
   | (with_reducible exact ih0 _ _)
   | (with_reducible exact ih1 _ _ _ _ _)
   | (with_reducible exact LeO.refl _)
   | (with_reducible exact LeO.none _)
   | (with_reducible refine LeO.ite ?_ ?_)
   | (with_reducible refine LeO.bind ?_ (fun _ => ?_))
set_option maxHeartbeats 8000000 in
set_option maxRecDepth 100000 in
theorem slices_Compact.calls (k : Nat) (P0_ : Nat → Prop) (u9000_ : Value) (l0 : List (S49)) (r : List (S49)) (w0 w : World) (hB : Below w0.heap.size w0 w) (ho0 : Kd.R k49 49 w w0.heap.size P0_ u9000_ l0) (h : slices_Compact.f k l0 = some r) :
  Calls Try.prog 114 #[u9000_] w fun e w' => ∃ v0_ : Value, e = .returned (v0_) ∧ Kd.R k49 49 w' w0.heap.size (fun k_ => (P0_ k_ ∨ w.heap.size ≤ k_)) v0_ r ∧ Below w0.heap.size w0 w' ∧ Kept w w' (fun k_ => P0_ k_) := by
 have hu49 := Try.underlying49; have HO0 := ak (show Kd.R k49 49 w w0.heap.size (fun k_ => (P0_ k_ ∨ w.heap.size ≤ k_)) u9000_ l0 from Kd.R_mono ho0 (fun k_ hk => (.inl hk))); have HK := ak (Kept.refl w (fun k_ => P0_ k_)); have HW0 := ak hB.size; have HB := ak hB; clear hB; have H : (if (l0.length : Int) < 2 then (some l0) else (slices_Compact.l0 k l0 1)) = some r := h; clear h
 by_cases c2 : (l0.length : Int) < 2
 ·rw [if_pos c2] at H
  have c2b0 := decide_eq_true c2; have c2b1 : decide (l0.length < 2) = true := decide_eq_true (by omega); clear c2; obtain rfl := Option.some.inj H; obtain ⟨Ao3, co3, eo3⟩ := Kd.R_slice HO0.out; subst eo3
  go_enter Try.func114, Try.ntmps114
  go_wp2
  repeat (go_quiet (fail); try go_wp2)
  go_ret; exact ⟨_, eq_, rq HO0, bq, kq⟩
 ·rw [if_neg c2] at H
  have c2b0 := decide_eq_false c2; have c2b1 : decide (l0.length < 2) = false := decide_eq_false (by omega); clear c2; have H' := ak H; clear H; obtain ⟨Ao4, co4, eo4⟩ := Kd.R_slice HO0.out; subst eo4
  go_enter Try.func114, Try.ntmps114
  go_wp2
  repeat (go_quiet (fail); try go_wp2)
  go_loopg [3] k (fun kq v3 w' => ∃ (x0_1 : List (S49)) (x3_1 : Int), v3 = .int .i64 x3_1 ∧ Aside0 (slices_Compact.l0 kq x0_1 x3_1 = some r) ∧ Aside0 (kq ≤ k) ∧ Aside0 (Kd.R k49 49 w' w0.heap.size (fun k_ => (P0_ k_ ∨ w.heap.size ≤ k_)) (.slice Ao4 l0.length co4) x0_1) ∧ Aside0 (Kept w w' (fun k_ => P0_ k_)) ∧ Aside0 (Below w0.heap.size w0 w'))
  case atStart => exact ⟨(l0), (1), sq, H', ⟨Nat.le_refl _⟩, ⟨rq HO0⟩, ⟨kq⟩, ⟨bq⟩⟩
  case round =>
   clear H'; (try clear c1); (try clear c2); (try clear c2b0); (try clear c2b1); (try clear p2); obtain ⟨x0_1, x3_1, rfl, HA, HK1, HO_0, HK, HB⟩ := hrel; have hl0_1 := (Kd.R_reads' HO_0.out).1; rw [hl0_1] at HO_0
   (try simp only [hl0_1])
   cases gk with
   | zero => exact absurd HA.out (by simp [slices_Compact.l0])
   | succ k1 =>
    have H := HA.out; clear HA; simp only [slices_Compact.l0] at H
    by_cases c5 : x3_1 < (x0_1.length : Int)
    ·rw [if_pos c5] at H
     have c5b0 := decide_eq_true c5; clear c5
     by_cases c6 : 0 ≤ x3_1
     ·rw [if_pos c6] at H
      have c6b0 := decide_eq_true c6; clear c6; obtain ⟨ji7, hji7⟩ : ∃ j_ : Int, (wrap64 (x3_1 - 1)) = j_ := ⟨_, rfl⟩
      (first | rw [hji7] at H | simp only [hji7] at H)
      have hji7w : (IntKind.i64.wrap (x3_1 - 1)) = ji7 := (i64_w _).trans hji7
      by_cases c8 : 0 ≤ (ji7)
      ·rw [if_pos c8] at H
       have c8b0 := decide_eq_true c8; clear c8
       by_cases c9 : (ji7) < (x0_1.length : Int)
       ·rw [if_pos c9] at H
        have c9b0 := decide_eq_true c9; clear c9
        by_cases c10 : (((rd_T49 x0_1 x3_1).f0) == ((rd_T49 x0_1 (ji7)).f0) && (((rd_T49 x0_1 x3_1).f1) == ((rd_T49 x0_1 (ji7)).f1))) = true
        ·rw [if_pos c10] at H
         have c10b0 : (((rd_T49 x0_1 x3_1).f0) == ((rd_T49 x0_1 (ji7)).f0) && (((rd_T49 x0_1 x3_1).f1) == ((rd_T49 x0_1 (ji7)).f1))) = true := c10
         (try (have c10b1 : decide (((rd_T49 x0_1 x3_1).f0) = ((rd_T49 x0_1 (ji7)).f0) && (((rd_T49 x0_1 x3_1).f1) == ((rd_T49 x0_1 (ji7)).f1))) = true := by simpa using c10))
         (try (have c10b2 : (((rd_T49 x0_1 x3_1).f0) == ((rd_T49 x0_1 (ji7)).f0) && (((rd_T49 x0_1 x3_1).f1) == ((rd_T49 x0_1 (ji7)).f1))) = true := by simpa using c10))
         clear c10; have c11b0 := eq_true (dq : 0 ≤ x3_1)
         by_cases c12 : x3_1 ≤ (x0_1.length : Int)
         ·rw [if_pos c12] at H
          have c12b0 := eq_true c12; have c12b1 := decide_eq_true c12; clear c12; obtain ⟨m13, hm13⟩ : ∃ m_ : Nat, m_ = (x3_1 : Int).toNat := ⟨_, rfl⟩; obtain ⟨n13, hn13⟩ : ∃ n_ : Nat, n_ = x0_1.length - m13 := ⟨_, rfl⟩; rw [← hm13, ← hn13] at H; have Nm13 := ak hm13; have Nn13 := ak hn13; clear hm13 hn13; have H' := ak H; clear H; have p291 : 0 ≤ (x3_1 : Int) := dq; have q291 : x3_1 < (x0_1.length : Int) := dq; obtain ⟨ad291, e291, hx291_0, hx291_1⟩ := at_T49 (Kd.R_reads' HO_0.out).2.2 x3_1 p291 q291; cases e291; replace p291 := eq_true p291; replace q291 := eq_true q291; have p292 : 0 ≤ ((ji7) : Int) := dq; have q292 : (ji7) < (x0_1.length : Int) := dq; obtain ⟨ad292, e292, hx292_0, hx292_1⟩ := at_T49 (Kd.R_reads' HO_0.out).2.2 (ji7) p292 q292; obtain rfl : ad291 = ad292 := (by injection e292); replace p292 := eq_true p292; replace q292 := eq_true q292; have q13 : (x3_1 : Int) ≤ ((x0_1.length : Int) : Int) := dq; obtain ⟨i013, hi013, _, hsz13, _⟩ := info_parts info49; have hroom13 : x0_1.length ≤ co4 := (Kd.R_reads' HO_0.out).2.1; have hC13 : Kd.C k49 _ (some ad291) x0_1.length x0_1 := (Kd.R_reads' HO_0.out).2.2; have q013 : (0 : Int) ≤ (x3_1 : Int) := dq; have hcut13 := cut_from (P := Try.prog) 22 49 .i64 Try.underlying22 hi013 2 hsz13 (some ad291) x0_1.length co4 x3_1 q013 q13; obtain ⟨A13, hA13⟩ : ∃ A1, A1 = (if co4 = (x3_1 : Int).toNat then (some ad291) else ((some ad291) : Option Addr).map (·.add ((x3_1 : Int).toNat * 2))) := ⟨_, rfl⟩; obtain ⟨c13, hc13⟩ : ∃ c1, c1 = co4 - (x3_1 : Int).toNat := ⟨_, rfl⟩; have hy13 : n13 = x0_1.length - (x3_1 : Int).toNat := (by rw [Nn13.out, Nm13.out]); rw [← hy13, ← hA13, ← hc13] at hcut13; clear hC13 hroom13 hi013 hsz13 hc13; have KY13 := ak hy13; rw [← Nm13.out] at hA13; have KA13 := ak hA13; clear hy13 hA13; have KL13 := ak (show m13 ≤ x0_1.length from by rw [Nm13.out]; omega); replace q13 := eq_true q13; go_wp2
          repeat (go_quiet (fail); try go_wp2)
          generalize ad291.add ((x3_1 : Int).toNat * 2) = p18_
          generalize ad291.add ((ji7 : Int).toNat * 2) = p23_
          go_loopg [3, 5] k1 (fun kq v3 v5 w' => ∃ (x0_2 : List (S49)) (x3_2 : Int) (x5_2 : Int), v3 = .int .i64 x3_2 ∧ v5 = .int .i64 x5_2 ∧ Aside0 (slices_Compact.l1 kq x0_2 x3_2 m13 n13 x5_2 = some r) ∧ Aside0 (kq ≤ k1) ∧ Aside0 (Kd.R k49 49 w' w0.heap.size (fun k_ => (P0_ k_ ∨ w.heap.size ≤ k_)) (.slice (some ad291) x0_1.length co4) x0_2) ∧ Aside0 (Kept w w' (fun k_ => P0_ k_)) ∧ Aside0 (Below w0.heap.size w0 w'))
          case atStart => exact ⟨(x0_1), (x3_1), (1), sq, sq, H', ⟨Nat.le_refl _⟩, ⟨by (try simp only [hl0_1]); (with_reducible repeat (first | apply Kd.R_alloc | apply Kd.R_drewN | apply Kd.R_drew)); exact HO_0.out⟩, ⟨kq⟩, ⟨bq⟩⟩
          case round =>
           clear H'; (try clear c1); (try clear q1); (try clear c2); (try clear c2b0); (try clear c2b1); (try clear p2); (try clear q2); (try clear hx2); (try clear c5); (try clear c5b0); (try clear c6); (try clear c6b0); (try clear p6); (try clear c8); (try clear c8b0); (try clear c9); (try clear c9b0); (try clear c10); (try clear c10b0); (try clear c10b1); (try clear c10b2); (try clear c11); (try clear c11b0); (try clear c12); (try clear c12b0); (try clear c12b1); (try clear c13); (try clear q13); (try clear hx291_0); (try clear hx291_1); (try clear hx292_0); (try clear hx292_1); (try clear p2); (try clear p291); (try clear p292); (try clear q013); (try clear q13); (try clear q291); (try clear q292); obtain ⟨x0_2, x3_2, x5_2, rfl, rfl, HA, HK2, HO_0, HK, HB⟩ := hrel; have hl0_2 := (Kd.R_reads' HO_0.out).1; rw [hl0_2] at HO_0
           (try simp only [hl0_2])
           cases gk with
           | zero => exact absurd HA.out (by simp [slices_Compact.l1])
           | succ k2 =>
            have H := HA.out; clear HA; simp only [slices_Compact.l1] at H; obtain ⟨y293, hy293⟩ : ∃ y_ : List (S49), y_ = (x0_2.drop m13) := ⟨_, rfl⟩; simp only [← hy293] at H
            have hyn13 : y293.length = n13 := by rw [hy293, List.length_drop, Nn13.out, ← hl0_2]
            have hrC := Kd.C_drop (m := m13) (c := co4) (Kd.R_reads' HO_0.out).2.2 (by rw [← hl0_2]; exact KL13.out) (Kd.R_reads' HO_0.out).2.1; rw [← hy293, hyn13] at hrC; replace hrC : Kd.C k49 _ A13 n13 y293 := (by rw [KA13.out]; exact hrC); have HR296 := ak hrC; clear hrC hy293
            by_cases c14 : x5_2 < (n13 : Int)
            ·rw [if_pos c14] at H
             have c14b0 := decide_eq_true c14; clear c14
             by_cases c15 : 0 ≤ x5_2
             ·rw [if_pos c15] at H
              have c15b0 := decide_eq_true c15; clear c15; obtain ⟨ji16, hji16⟩ : ∃ j_ : Int, (wrap64 (x5_2 - 1)) = j_ := ⟨_, rfl⟩
              (first | rw [hji16] at H | simp only [hji16] at H)
              have hji16w : (IntKind.i64.wrap (x5_2 - 1)) = ji16 := (i64_w _).trans hji16
              by_cases c17 : 0 ≤ (ji16)
              ·rw [if_pos c17] at H
               have c17b0 := decide_eq_true c17; clear c17
               by_cases c18 : (ji16) < (n13 : Int)
               ·rw [if_pos c18] at H
                have c18b0 := decide_eq_true c18; clear c18
                by_cases c19 : (!(((rd_T49 y293 x5_2).f0) == ((rd_T49 y293 (ji16)).f0)) || (!(((rd_T49 y293 x5_2).f1) == ((rd_T49 y293 (ji16)).f1)))) = true
                ·rw [if_pos c19] at H
                 have c19b0 : (!(((rd_T49 y293 x5_2).f0) == ((rd_T49 y293 (ji16)).f0)) || (!(((rd_T49 y293 x5_2).f1) == ((rd_T49 y293 (ji16)).f1)))) = true := c19; clear c19
                 by_cases c20 : 0 ≤ x3_2
                 ·rw [if_pos c20] at H
                  have c20b0 := decide_eq_true c20; clear c20
                  by_cases c21 : x3_2 < (x0_2.length : Int)
                  ·rw [if_pos c21] at H
                   have c21b0 := decide_eq_true c21; clear c21; obtain ⟨y300, hy300⟩ : ∃ y_ : List (S49), y_ = (x0_2.set (x3_2 : Int).toNat (⟨(rd_T49 y293 x5_2).f0, (rd_T49 y293 x5_2).f1⟩ : S49)) := ⟨_, rfl⟩
                   replace H : (slices_Compact.l1 k2 y300 (wrap64 (x3_2 + 1)) m13 n13 (wrap64 (x5_2 + 1))) = some r := by first | (rw [hy300]; with_reducible exact H) | (have H2_ := (Option.bind_some _ _).symm.trans H; rw [hy300]; with_reducible exact H2_) | (have H2_ := (Option.bind_some _ _).symm.trans H; with_reducible exact H2_) | with_reducible exact H | (rw [hy300]; exact H) | exact H
                   have Ny300 := ak hy300; clear hy300; have H' := ak H; clear H; have p297 : 0 ≤ (x5_2 : Int) := dq; have q297 : x5_2 < (n13 : Int) := dq; obtain ⟨ad297, e297, hx297_0, hx297_1⟩ := at_T49 HR296.out x5_2 p297 q297; cases e297; replace p297 := eq_true p297; replace q297 := eq_true q297; have p298 : 0 ≤ ((ji16) : Int) := dq; have q298 : (ji16) < (n13 : Int) := dq; obtain ⟨ad298, e298, hx298_0, hx298_1⟩ := at_T49 HR296.out (ji16) p298 q298; obtain rfl : ad297 = ad298 := (by injection e298); replace p298 := eq_true p298; replace q298 := eq_true q298; have p299 : 0 ≤ (x5_2 : Int) := dq; have q299 : x5_2 < (n13 : Int) := dq; obtain ⟨ad299, e299, hx299_0, hx299_1⟩ := at_T49 HR296.out x5_2 p299 q299; obtain rfl : ad297 = ad299 := (by injection e299); replace p299 := eq_true p299; replace q299 := eq_true q299; have p22 : 0 ≤ (x3_2 : Int) := dq; have q22 : (x3_2 : Int) < ((x0_2.length : Int) : Int) := dq; obtain ⟨go22, co22, eo22, gb22, gl22, cl22, HG22⟩ := Kd.R_form HO_0.out (by omega)
                   (first | cases eo22 | (injection eo22 with ea_ en_ ec_; (first | subst ea_ | (injection ea_ with ea_; subst ea_)); subst ec_; clear en_))
                   have GB22 := ak gb22; have GG22 := ak HG22; clear gb22 gl22 HG22; have HMgo22 := ak (show (P0_ go22 ∨ w.heap.size ≤ go22) from (HO_0.out.1 _ rfl))
                   (first | simp only [add_plain] at hx291_0 | skip)
                   (first | simp only [add_plain] at hx291_1 | skip)
                   (first | simp only [add_plain] at hx292_0 | skip)
                   (first | simp only [add_plain] at hx292_1 | skip)
                   obtain ⟨ce22, hcl22, hM22, hcc22, hfr22⟩ := Kd.R_elem HO_0.out z49 (x3_2 : Int) p22 q22; obtain rfl := k49_openM hM22; have hx22_0 : wr.cell? ⟨go22, (x3_2 : Int).toNat * 2, none⟩ = some (.int .i64 ((rd_T49 x0_2 x3_2).f0)) := hcc22 0 _ rfl; have hx22_1 : wr.cell? ⟨go22, (x3_2 : Int).toNat * 2 + 1, none⟩ = some (.int .i64 ((rd_T49 x0_2 x3_2).f1)) := hcc22 1 _ rfl; have hf22_0 : wr.frozen? ⟨go22, (x3_2 : Int).toNat * 2, none⟩ = false := hfr22 0; have hf22_1 : wr.frozen? ⟨go22, (x3_2 : Int).toNat * 2 + 1, none⟩ = false := hfr22 1; clear hcl22 hcc22 hfr22 hM22; replace p22 := eq_true p22; replace q22 := eq_true q22; have HX23 := ak (show Kd.R k49 49 wr w0.heap.size (fun k_ => (P0_ k_ ∨ w.heap.size ≤ k_)) (.slice (some ⟨go22, 0, none⟩) x0_2.length co4) x0_2 from (rq HO_0)); obtain ⟨ce23, hcl23, hM23, hcc23, hfr23⟩ := Kd.R_elem HX23.out z49 (x3_2 : Int) (dq) (by have h_ : (x3_2 : Int) < ((x0_2.length : Int) : Int) := dq; first | exact h_ | (have e_ := (Kd.R_reads' HO_0.out).1; omega) | simpa using h_); obtain rfl := k49_openM hM23; have HP23 := Kd.R_seg HX23.out (x3_2 : Int) (dq) (by have h_ : (x3_2 : Int) < ((x0_2.length : Int) : Int) := dq; first | exact h_ | (have e_ := (Kd.R_reads' HO_0.out).1; omega) | simpa using h_) (seg := [.int .i64 ((rd_T49 y293 x5_2).f0), .int .i64 ((rd_T49 y293 x5_2).f1)]) (j := 0) hcl23 hcc23 (show 2 ≤ 2 from by decide) (x' := (⟨(rd_T49 y293 x5_2).f0, (rd_T49 y293 x5_2).f1⟩ : S49)) (k49_mkM _ _ _ (⟨(rd_T49 y293 x5_2).f0, (rd_T49 y293 x5_2).f1⟩ : S49) ) (fun _ hk => hk); have hx23_0 := hcc23 0 _ rfl
                   (try simp only [show (k49).sz = 2 from rfl, Nat.mul_one, Nat.add_zero] at hx23_0)
                   have hf23_0 := hfr23 0
                   (try simp only [show (k49).sz = 2 from rfl, Nat.mul_one, Nat.add_zero] at hf23_0)
                   have hx23_1 := hcc23 1 _ rfl
                   (try simp only [show (k49).sz = 2 from rfl, Nat.mul_one, Nat.add_zero] at hx23_1)
                   have hf23_1 := hfr23 1
                   (try simp only [show (k49).sz = 2 from rfl, Nat.mul_one, Nat.add_zero] at hf23_1)
                   clear hcl23 hcc23 hfr23 hM23
                   go_wp2_with (first | ((with_reducible refine gate_store (t := 49) (p := 51) rfl ?_); (try (rw [drewN_self wr]; generalize hq_ : World.drewN wr _ = wr; have n0_ := ak (Kd.R_at hq_ HO_0.out); have n1_ := ak (kept_at hq_ HK.out); have n2_ := ak (below_at hq_ HB.out); clear hq_ HO_0 HK HB; have HO_0 := n0_; have HK := n1_; have HB := n2_; clear n0_ n1_ n2_; (try (have HX23 := ak (show Kd.R k49 49 wr w0.heap.size (fun k_ => (P0_ k_ ∨ w.heap.size ≤ k_)) (.slice (some ⟨go22, 0, none⟩) x0_2.length co4) x0_2 from (rq HO_0)))); (try (obtain ⟨ce23, hcl23, hM23, hcc23, hfr23⟩ := Kd.R_elem HX23.out z49 (x3_2 : Int) (dq) (by have h_ : (x3_2 : Int) < ((x0_2.length : Int) : Int) := dq; first | exact h_ | (have e_ := (Kd.R_reads' HO_0.out).1; omega) | simpa using h_))); (try (obtain rfl := k49_openM hM23)); (try (have HP23 := Kd.R_seg HX23.out (x3_2 : Int) (dq) (by have h_ : (x3_2 : Int) < ((x0_2.length : Int) : Int) := dq; first | exact h_ | (have e_ := (Kd.R_reads' HO_0.out).1; omega) | simpa using h_) (seg := [.int .i64 ((rd_T49 y293 x5_2).f0), .int .i64 ((rd_T49 y293 x5_2).f1)]) (j := 0) hcl23 hcc23 (show 2 ≤ 2 from by decide) (x' := (⟨(rd_T49 y293 x5_2).f0, (rd_T49 y293 x5_2).f1⟩ : S49)) (k49_mkM _ _ _ (⟨(rd_T49 y293 x5_2).f0, (rd_T49 y293 x5_2).f1⟩ : S49) ) (fun _ hk => hk))); (try (have hx23_0 := hcc23 0 _ rfl)); (try (try simp only [show (k49).sz = 2 from rfl, Nat.mul_one, Nat.add_zero] at hx23_0)); (try (have hf23_0 := hfr23 0)); (try (try simp only [show (k49).sz = 2 from rfl, Nat.mul_one, Nat.add_zero] at hf23_0)); (try (have hx23_1 := hcc23 1 _ rfl)); (try (try simp only [show (k49).sz = 2 from rfl, Nat.mul_one, Nat.add_zero] at hx23_1)); (try (have hf23_1 := hfr23 1)); (try (try simp only [show (k49).sz = 2 from rfl, Nat.mul_one, Nat.add_zero] at hf23_1)); (try (clear hcl23 hcc23 hfr23 hM23)))); refine store_event (t := 49) (p := 51) (v := ?vo_w24) (w1 := ((wr.setCell ⟨go22, (x3_2 : Int).toNat * 2, none⟩ (.int .i64 ((rd_T49 y293 x5_2).f0))).setCell ⟨go22, (x3_2 : Int).toNat * 2 + 1, none⟩ (.int .i64 ((rd_T49 y293 x5_2).f1)))) ?hg ?ho ?hn ?hr ?_; (case ho => rfl); (case hg => rfl); (case hn => rfl); (case hr => first | (go_simp; done) | (go_simp; rfl)); intro w24 hw; have hg : wr.grownBy w24 (some go22) := (by rw [hw]; exact HP23.2); have hp_ : Kd.R k49 49 w24 w0.heap.size (fun k_ => (P0_ k_ ∨ w.heap.size ≤ k_)) (.slice (some ⟨go22, 0, none⟩) x0_2.length co4) y300 := (by rw [hw, Ny300.out]; exact HP23.1); clear HP23; have n0_ := ak (hp_); have n1_ := ak ((by rw [hw]; exact below_set (below_set (HB.out) GB22.out) GB22.out : Below w0.heap.size w0 w24)); have n2_ := ak (Kept.of_grown (S := (fun k_ => P0_ k_)) hg kq (fun k_ e_ => (HO_0.out.1 k_ e_))); clear HO_0; clear HB; clear HK; have HO_0 := n0_; have HB := n1_; have HK := n2_; clear n0_ n1_ n2_; clear hg hw hp_))
                   repeat (go_quiet (first | ((with_reducible refine gate_store (t := 49) (p := 51) rfl ?_); (try (rw [drewN_self wr]; generalize hq_ : World.drewN wr _ = wr; have n0_ := ak (Kd.R_at hq_ HO_0.out); have n1_ := ak (kept_at hq_ HK.out); have n2_ := ak (below_at hq_ HB.out); clear hq_ HO_0 HK HB; have HO_0 := n0_; have HK := n1_; have HB := n2_; clear n0_ n1_ n2_; (try (have HX23 := ak (show Kd.R k49 49 wr w0.heap.size (fun k_ => (P0_ k_ ∨ w.heap.size ≤ k_)) (.slice (some ⟨go22, 0, none⟩) x0_2.length co4) x0_2 from (rq HO_0)))); (try (obtain ⟨ce23, hcl23, hM23, hcc23, hfr23⟩ := Kd.R_elem HX23.out z49 (x3_2 : Int) (dq) (by have h_ : (x3_2 : Int) < ((x0_2.length : Int) : Int) := dq; first | exact h_ | (have e_ := (Kd.R_reads' HO_0.out).1; omega) | simpa using h_))); (try (obtain rfl := k49_openM hM23)); (try (have HP23 := Kd.R_seg HX23.out (x3_2 : Int) (dq) (by have h_ : (x3_2 : Int) < ((x0_2.length : Int) : Int) := dq; first | exact h_ | (have e_ := (Kd.R_reads' HO_0.out).1; omega) | simpa using h_) (seg := [.int .i64 ((rd_T49 y293 x5_2).f0), .int .i64 ((rd_T49 y293 x5_2).f1)]) (j := 0) hcl23 hcc23 (show 2 ≤ 2 from by decide) (x' := (⟨(rd_T49 y293 x5_2).f0, (rd_T49 y293 x5_2).f1⟩ : S49)) (k49_mkM _ _ _ (⟨(rd_T49 y293 x5_2).f0, (rd_T49 y293 x5_2).f1⟩ : S49) ) (fun _ hk => hk))); (try (have hx23_0 := hcc23 0 _ rfl)); (try (try simp only [show (k49).sz = 2 from rfl, Nat.mul_one, Nat.add_zero] at hx23_0)); (try (have hf23_0 := hfr23 0)); (try (try simp only [show (k49).sz = 2 from rfl, Nat.mul_one, Nat.add_zero] at hf23_0)); (try (have hx23_1 := hcc23 1 _ rfl)); (try (try simp only [show (k49).sz = 2 from rfl, Nat.mul_one, Nat.add_zero] at hx23_1)); (try (have hf23_1 := hfr23 1)); (try (try simp only [show (k49).sz = 2 from rfl, Nat.mul_one, Nat.add_zero] at hf23_1)); (try (clear hcl23 hcc23 hfr23 hM23)))); refine store_event (t := 49) (p := 51) (v := ?vo_w24) (w1 := ((wr.setCell ⟨go22, (x3_2 : Int).toNat * 2, none⟩ (.int .i64 ((rd_T49 y293 x5_2).f0))).setCell ⟨go22, (x3_2 : Int).toNat * 2 + 1, none⟩ (.int .i64 ((rd_T49 y293 x5_2).f1)))) ?hg ?ho ?hn ?hr ?_; (case ho => rfl); (case hg => rfl); (case hn => rfl); (case hr => first | (go_simp; done) | (go_simp; rfl)); intro w24 hw; have hg : wr.grownBy w24 (some go22) := (by rw [hw]; exact HP23.2); have hp_ : Kd.R k49 49 w24 w0.heap.size (fun k_ => (P0_ k_ ∨ w.heap.size ≤ k_)) (.slice (some ⟨go22, 0, none⟩) x0_2.length co4) y300 := (by rw [hw, Ny300.out]; exact HP23.1); clear HP23; have n0_ := ak (hp_); have n1_ := ak ((by rw [hw]; exact below_set (below_set (HB.out) GB22.out) GB22.out : Below w0.heap.size w0 w24)); have n2_ := ak (Kept.of_grown (S := (fun k_ => P0_ k_)) hg kq (fun k_ e_ => (HO_0.out.1 k_ e_))); clear HO_0; clear HB; clear HK; have HO_0 := n0_; have HB := n1_; have HK := n2_; clear n0_ n1_ n2_; clear hg hw hp_)); try go_wp2_with (first | ((with_reducible refine gate_store (t := 49) (p := 51) rfl ?_); (try (rw [drewN_self wr]; generalize hq_ : World.drewN wr _ = wr; have n0_ := ak (Kd.R_at hq_ HO_0.out); have n1_ := ak (kept_at hq_ HK.out); have n2_ := ak (below_at hq_ HB.out); clear hq_ HO_0 HK HB; have HO_0 := n0_; have HK := n1_; have HB := n2_; clear n0_ n1_ n2_; (try (have HX23 := ak (show Kd.R k49 49 wr w0.heap.size (fun k_ => (P0_ k_ ∨ w.heap.size ≤ k_)) (.slice (some ⟨go22, 0, none⟩) x0_2.length co4) x0_2 from (rq HO_0)))); (try (obtain ⟨ce23, hcl23, hM23, hcc23, hfr23⟩ := Kd.R_elem HX23.out z49 (x3_2 : Int) (dq) (by have h_ : (x3_2 : Int) < ((x0_2.length : Int) : Int) := dq; first | exact h_ | (have e_ := (Kd.R_reads' HO_0.out).1; omega) | simpa using h_))); (try (obtain rfl := k49_openM hM23)); (try (have HP23 := Kd.R_seg HX23.out (x3_2 : Int) (dq) (by have h_ : (x3_2 : Int) < ((x0_2.length : Int) : Int) := dq; first | exact h_ | (have e_ := (Kd.R_reads' HO_0.out).1; omega) | simpa using h_) (seg := [.int .i64 ((rd_T49 y293 x5_2).f0), .int .i64 ((rd_T49 y293 x5_2).f1)]) (j := 0) hcl23 hcc23 (show 2 ≤ 2 from by decide) (x' := (⟨(rd_T49 y293 x5_2).f0, (rd_T49 y293 x5_2).f1⟩ : S49)) (k49_mkM _ _ _ (⟨(rd_T49 y293 x5_2).f0, (rd_T49 y293 x5_2).f1⟩ : S49) ) (fun _ hk => hk))); (try (have hx23_0 := hcc23 0 _ rfl)); (try (try simp only [show (k49).sz = 2 from rfl, Nat.mul_one, Nat.add_zero] at hx23_0)); (try (have hf23_0 := hfr23 0)); (try (try simp only [show (k49).sz = 2 from rfl, Nat.mul_one, Nat.add_zero] at hf23_0)); (try (have hx23_1 := hcc23 1 _ rfl)); (try (try simp only [show (k49).sz = 2 from rfl, Nat.mul_one, Nat.add_zero] at hx23_1)); (try (have hf23_1 := hfr23 1)); (try (try simp only [show (k49).sz = 2 from rfl, Nat.mul_one, Nat.add_zero] at hf23_1)); (try (clear hcl23 hcc23 hfr23 hM23)))); refine store_event (t := 49) (p := 51) (v := ?vo_w24) (w1 := ((wr.setCell ⟨go22, (x3_2 : Int).toNat * 2, none⟩ (.int .i64 ((rd_T49 y293 x5_2).f0))).setCell ⟨go22, (x3_2 : Int).toNat * 2 + 1, none⟩ (.int .i64 ((rd_T49 y293 x5_2).f1)))) ?hg ?ho ?hn ?hr ?_; (case ho => rfl); (case hg => rfl); (case hn => rfl); (case hr => first | (go_simp; done) | (go_simp; rfl)); intro w24 hw; have hg : wr.grownBy w24 (some go22) := (by rw [hw]; exact HP23.2); have hp_ : Kd.R k49 49 w24 w0.heap.size (fun k_ => (P0_ k_ ∨ w.heap.size ≤ k_)) (.slice (some ⟨go22, 0, none⟩) x0_2.length co4) y300 := (by rw [hw, Ny300.out]; exact HP23.1); clear HP23; have n0_ := ak (hp_); have n1_ := ak ((by rw [hw]; exact below_set (below_set (HB.out) GB22.out) GB22.out : Below w0.heap.size w0 w24)); have n2_ := ak (Kept.of_grown (S := (fun k_ => P0_ k_)) hg kq (fun k_ e_ => (HO_0.out.1 k_ e_))); clear HO_0; clear HB; clear HK; have HO_0 := n0_; have HB := n1_; have HK := n2_; clear n0_ n1_ n2_; clear hg hw hp_)))
                   (try simp only [← hl0_2])
                   go_roundg k2
                   case measure => have := HK1.out; have := HK2.out; omega
                   case rel => exact ⟨(y300), (wrap64 (x3_2 + 1)), (wrap64 (x5_2 + 1)), sq, sq, H', ⟨by have := HK1.out; have := HK2.out; omega⟩, ⟨by (try simp only [hl0_1]); (try simp only [hl0_2]); (with_reducible repeat (first | apply Kd.R_alloc | apply Kd.R_drewN | apply Kd.R_drew)); exact HO_0.out⟩, ⟨kq⟩, ⟨bq⟩⟩
                  ·rw [if_neg c21] at H
                   exact absurd H (by simp)
                 ·rw [if_neg c20] at H
                  exact absurd H (by simp)
                ·rw [if_neg c19] at H
                 have c19b0 : (!(((rd_T49 y293 x5_2).f0) == ((rd_T49 y293 (ji16)).f0)) || (!(((rd_T49 y293 x5_2).f1) == ((rd_T49 y293 (ji16)).f1)))) = false := by simpa using c19
                 clear c19; have H' := ak H; clear H; have p297 : 0 ≤ (x5_2 : Int) := dq; have q297 : x5_2 < (n13 : Int) := dq; obtain ⟨ad297, e297, hx297_0, hx297_1⟩ := at_T49 HR296.out x5_2 p297 q297; cases e297; replace p297 := eq_true p297; replace q297 := eq_true q297; have p298 : 0 ≤ ((ji16) : Int) := dq; have q298 : (ji16) < (n13 : Int) := dq; obtain ⟨ad298, e298, hx298_0, hx298_1⟩ := at_T49 HR296.out (ji16) p298 q298; obtain rfl : ad297 = ad298 := (by injection e298); replace p298 := eq_true p298; replace q298 := eq_true q298; go_wp2
                 repeat (go_quiet (fail); try go_wp2)
                 (try simp only [← hl0_2])
                 go_roundg k2
                 case measure => have := HK1.out; have := HK2.out; omega
                 case rel => exact ⟨(x0_2), (x3_2), (wrap64 (x5_2 + 1)), sq, sq, H', ⟨by have := HK1.out; have := HK2.out; omega⟩, ⟨by (try simp only [hl0_1]); (try simp only [hl0_2]); (with_reducible repeat (first | apply Kd.R_alloc | apply Kd.R_drewN | apply Kd.R_drew)); exact HO_0.out⟩, ⟨kq⟩, ⟨bq⟩⟩
               ·rw [if_neg c18] at H
                exact absurd H (by simp)
              ·rw [if_neg c17] at H
               exact absurd H (by simp)
             ·rw [if_neg c15] at H
              exact absurd H (by simp)
            ·rw [if_neg c14] at H
             have c14b0 := decide_eq_false c14; clear c14
             by_cases c25 : 0 ≤ x3_2
             ·rw [if_pos c25] at H
              by_cases c26 : x3_2 < (x0_2.length : Int)
              ·rw [if_pos c26] at H
               obtain ⟨i, rfl⟩ := Int.eq_ofNat_of_zero_le c25
               have hi : i < x0_2.length := by omega
               rw [Int.toNat_natCast] at H; obtain rfl := Option.some.inj H; clear H; obtain ⟨go, cap, e_, gb, gl, cl, HG⟩ := Kd.R_form HO_0.out (by omega)
               obtain ⟨e1, e3⟩ : ad291 = ⟨go, 0, none⟩ ∧ co4 = cap := by injection e_ with a_ b_ c_; injection a_ with a_; exact ⟨a_, c_⟩
               subst e1; subst e3; have hroom := (Kd.R_reads' HO_0.out).2.1; obtain ⟨i022, hi022, _, hsz22, _⟩ := info_parts info49; have hcut22 := cut_from (P := Try.prog) 22 49 .i64 Try.underlying22 hi022 2 hsz22 (some ⟨go, 0, none⟩) x0_2.length co4 (i : Int) (by omega) (by omega); have hcut23 := cut_to (P := Try.prog) 22 49 .i64 Try.underlying22 hi022 (some ⟨go, 0, none⟩) x0_2.length co4 (i : Int) (by omega) (by omega) hroom; have hr23 := Kd.R_take (m := i) HO_0.out (by omega); obtain ⟨w2, hclr, ho2, hg2⟩ := slices_Compact.R_clear k49 (n := i) (c2 := co4 - i) 22 (.agg #[.int .i64 0, .int .i64 0]) Try.underlying22 slices_Compact.zero rfl (by intro u hu; simp [Value.cells] at hu; rcases hu with rfl | rfl <;> rfl) (by decide) slices_Compact.M hr23 (m := x0_2.length - i) (by omega) (by omega)
               have hne : ¬ co4 = i := by omega
               have hle : (i : Int) ≤ (x0_2.length : Int) := by omega
               rw [Int.toNat_natCast, if_neg hne] at hcut22; rw [Int.toNat_natCast] at hcut23
               have eo : (some (⟨go, 0, none⟩ : Addr)).map (·.add (i * 2)) = some ⟨go, i * 2, none⟩ := by rw [Option.map_some, add_plain]
               rw [eo] at hcut22; have hszk : Kd.sz k49 = 2 := rfl; rw [hszk] at hclr; have HO2 := ak ho2; have HB2 := ak (HB.out.grown hg2 HB.out.size (fun k hk => by injection hk with hk; subst hk; exact gb)); have HK2 := ak (Kept.of_grown (S := (fun k_ => P0_ k_)) hg2 HK.out (fun k_ e_ => HO_0.out.1 k_ (by rw [← e_]; rfl))); clear ho2 hr23 hi022 hsz22 hg2 HO_0 HB HK HG gb gl; replace c25 := eq_true c25; replace c26 := eq_true c26; replace hle := eq_true hle; go_wp2; go_ret; exact ⟨_, rfl, HO2.out, HB2.out, HK2.out⟩
              ·rw [if_neg c26] at H
               exact absurd H (by simp)
             ·rw [if_neg c25] at H
              exact absurd H (by simp)
         ·rw [if_neg c12] at H
          exact absurd H (by simp)
        ·rw [if_neg c10] at H
         have c10b0 : (((rd_T49 x0_1 x3_1).f0) == ((rd_T49 x0_1 (ji7)).f0) && (((rd_T49 x0_1 x3_1).f1) == ((rd_T49 x0_1 (ji7)).f1))) = false := by simpa using c10
         (try (have c10b1 : decide (((rd_T49 x0_1 x3_1).f0) = ((rd_T49 x0_1 (ji7)).f0) && (((rd_T49 x0_1 x3_1).f1) == ((rd_T49 x0_1 (ji7)).f1))) = false := by simpa using c10))
         (try (have c10b2 : (((rd_T49 x0_1 x3_1).f0) == ((rd_T49 x0_1 (ji7)).f0) && (((rd_T49 x0_1 x3_1).f1) == ((rd_T49 x0_1 (ji7)).f1))) = false := by simpa using c10))
         (try (have c10b3 : ¬ (((rd_T49 x0_1 x3_1).f0) = ((rd_T49 x0_1 (ji7)).f0) && (((rd_T49 x0_1 x3_1).f1) == ((rd_T49 x0_1 (ji7)).f1))) := by simpa using c10))
         clear c10; have H' := ak H; clear H; have p291 : 0 ≤ (x3_1 : Int) := dq; have q291 : x3_1 < (x0_1.length : Int) := dq; obtain ⟨ad291, e291, hx291_0, hx291_1⟩ := at_T49 (Kd.R_reads' HO_0.out).2.2 x3_1 p291 q291; cases e291; replace p291 := eq_true p291; replace q291 := eq_true q291; have p292 : 0 ≤ ((ji7) : Int) := dq; have q292 : (ji7) < (x0_1.length : Int) := dq; obtain ⟨ad292, e292, hx292_0, hx292_1⟩ := at_T49 (Kd.R_reads' HO_0.out).2.2 (ji7) p292 q292; obtain rfl : ad291 = ad292 := (by injection e292); replace p292 := eq_true p292; replace q292 := eq_true q292; go_wp2
         repeat (go_quiet (fail); try go_wp2)
         (try simp only [← hl0_1])
         go_roundg k1
         case measure => have := HK1.out; omega
         case rel => exact ⟨(x0_1), (wrap64 (x3_1 + 1)), sq, H', ⟨by have := HK1.out; omega⟩, ⟨by (try simp only [hl0_1]); (with_reducible repeat (first | apply Kd.R_alloc | apply Kd.R_drewN | apply Kd.R_drew)); exact HO_0.out⟩, ⟨kq⟩, ⟨bq⟩⟩
       ·rw [if_neg c9] at H
        exact absurd H (by simp)
      ·rw [if_neg c8] at H
       exact absurd H (by simp)
     ·rw [if_neg c6] at H
      exact absurd H (by simp)
    ·rw [if_neg c5] at H
     have c5b0 := decide_eq_false c5; clear c5; obtain rfl := Option.some.inj H; go_wp2
     repeat (go_quiet (fail); try go_wp2)
     go_ret; exact ⟨_, eq_, rq HO_0, bq, kq⟩

end Go.Proofs.Ytckhmeadflafaaa.XCb
