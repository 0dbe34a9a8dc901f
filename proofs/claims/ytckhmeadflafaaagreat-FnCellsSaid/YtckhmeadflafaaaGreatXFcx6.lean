/- Functions of the program as plain Lean functions, each with the proof that the machine's call does what it says: written by a program of this session out of the translation. -/
import Derived.Deep.RegionLaw
import Derived.Lib.SliceRun
import Derived.Lib.Hide
import Derived.Test.YtckhmeadflafaaaGreatXFcx0
import Derived.Test.YtckhmeadflafaaaGreatXFcx1
import Derived.Test.YtckhmeadflafaaaGreatXFcx3
import Derived.Test.YtckhmeadflafaaaGreatXFcx5
import Derived.Test.YtckhmeadflafaaaGreatXFcx4
namespace Go.Proofs.YtckhmeadflafaaaGreat.XFc
open Go.RowKit Go.Proofs.YtckhmeadflafaaaGreatW.PrintWords Go.Proofs.YtckhmeadflafaaaGreatW.PrintLast Go.Proofs.YtckhmeadflafaaaGreatW.PrintMore
attribute [local go_sem] max2_int min2_int max_two min_two max_three min_three max_four min_four   -- for this text's walks alone
set_option linter.unusedVariables false
set_option linter.unusedSimpArgs false
set_option maxHeartbeats 8000000
set_option maxRecDepth 100000
section
attribute [local go_sem high] eqA37
/-! ### slices_Compact: function 65 -/
mutual
def slices_Compact.l0 : Nat → List (S37) → Int → Option ((List (S37)))
 | 0, _, _ => none
 | k + 1, x0, x3 => if x3 < (x0.length : Int) then (if 0 ≤ x3 then (if 0 ≤ (wrap64 (x3 - 1)) then (if (wrap64 (x3 - 1)) < (x0.length : Int) then (if (((rd_T37 x0 x3).f0) == ((rd_T37 x0 (wrap64 (x3 - 1))).f0) && (((rd_T37 x0 x3).f1) == ((rd_T37 x0 (wrap64 (x3 - 1))).f1))) = true then (if x3 ≤ (x0.length : Int) then (slices_Compact.l1 k x0 x3 (x3 : Int).toNat (x0.length - (x3 : Int).toNat) 1) else (none)) else (slices_Compact.l0 k x0 (wrap64 (x3 + 1)))) else (none)) else (none)) else (none)) else (some x0)
def slices_Compact.l1 : Nat → List (S37) → Int → Nat → Nat → Int → Option ((List (S37)))
 | 0, _, _, _, _, _ => none
 | k + 1, x0, x3, m4, n4, x5 => if x5 < (n4 : Int) then (if 0 ≤ x5 then (if 0 ≤ (wrap64 (x5 - 1)) then (if (wrap64 (x5 - 1)) < (n4 : Int) then (if (!(((rd_T37 (x0.drop m4) x5).f0) == ((rd_T37 (x0.drop m4) (wrap64 (x5 - 1))).f0)) || (!(((rd_T37 (x0.drop m4) x5).f1) == ((rd_T37 (x0.drop m4) (wrap64 (x5 - 1))).f1)))) = true then (if 0 ≤ x3 then (if x3 < (x0.length : Int) then (slices_Compact.l1 k (x0.set (x3 : Int).toNat (⟨(rd_T37 (x0.drop m4) x5).f0, (rd_T37 (x0.drop m4) x5).f1⟩ : S37)) (wrap64 (x3 + 1)) m4 n4 (wrap64 (x5 + 1))) else (none)) else (none)) else (slices_Compact.l1 k x0 x3 m4 n4 (wrap64 (x5 + 1)))) else (none)) else (none)) else (none)) else (if 0 ≤ x3 then (if x3 < (x0.length : Int) then (some (x0.take (x3 : Int).toNat)) else (none)) else (none))
end
def slices_Compact.f (k : Nat) (l0 : List (S37)) : Option ((List (S37))) := if (l0.length : Int) < 2 then (some l0) else (slices_Compact.l0 k l0 1)
theorem slices_Compact.setCells_blk {g : Nat} {t : TypeId} : ∀ (vs : List Value) (o : Nat) {w : World} {cs : Array Value}, w.heap[g]? = some (.cells cs t (0, 0)) → ∃ cs', (w.setCells g o vs).heap[g]? = some (.cells cs' t (0, 0)) ∧ cs'.size = cs.size ∧ (∀ i, i < o → cs'[i]? = cs[i]?) ∧ w.grownBy (w.setCells g o vs) (some g) := by
 intro vs
 induction vs with
 | nil => intro o w cs h; exact ⟨cs, h, rfl, fun _ _ => rfl, ⟨rfl, rfl, rfl, Nat.le_refl _, fun _ _ _ => rfl⟩⟩
 | cons v r ih =>
  intro o w cs h; have h1 := blk_set h o v; obtain ⟨cs', e1, e2, e3, e4⟩ := ih (o + 1) h1; refine ⟨cs', e1, by rw [e2]; simp, fun i hi => ?_, ?_⟩
  ·rw [e3 i (by omega), Array.getElem?_setIfInBounds_ne (by omega)]
  ·have g1 : w.grownBy (w.setCell ⟨g, o, none⟩ v) (some g) := ⟨(Below.setCell (Below.refl 0 w) (Nat.zero_le _) v).os, (Below.setCell (Below.refl 0 w) (Nat.zero_le _) v).tape, (Below.setCell (Below.refl 0 w) (Nat.zero_le _) v).output, by simp, fun k hk hne => Below.heap_setCell w ⟨g, o, none⟩ v k (fun e => hne (by rw [e]))⟩
   exact World.grownBy.trans g1 e4
/-- The cells behind a row's elements are set to zero: the row stays. -/
theorem slices_Compact.R_clear {α : Type} (d : Kd α) {W : World} {base e g n c m c2 : Nat} {xs : List α} {ok : Nat → Prop} (t : TypeId) (z : Value) (ht : Tryz.prog.underlying t = some (.slice e)) (hv : ∀ w, (zeroValue e).run Tryz.prog w = .ok z w) (hzs : z.cells.size = d.sz) (h1 : ∀ u ∈ z.cells, u.oneCell' = true) (hd0 : 0 < d.sz) (hM : ∀ (W W' : World) (base : Nat) (ok : Nat → Prop) p c, d.M W base ok p c → d.M W' base ok p c)
  (HO : d.R e W base ok (.slice (some ⟨g, 0, none⟩) n c) xs) (hm : n + m ≤ c) (hm0 : 0 < m) :
  ∃ w1, (∀ ty, (Builtin.clear_ #[t] ty #[.slice (some ⟨g, n * d.sz, none⟩) m c2]).run Tryz.prog W = .ok (.tuple #[]) w1) ∧ d.R e w1 base ok (.slice (some ⟨g, 0, none⟩) n c) xs ∧ W.grownBy w1 (some g) := by
 obtain ⟨hok, inner, ⟨ho1, ho2⟩, hr⟩ := HO
 rcases ho2 with ⟨hv', _⟩ | ⟨g', cap', cur, hv', hb, hh, h2, hcm, hcs, htake⟩
 ·cases hv'
 injection hv' with ha hn hc
 injection ha with ha
 injection ha with hg
 subst hg; subst hc; subst hn
 have hzl : (Builtin.zeroCells z.cells m).toList.length = m * d.sz := by simp [Builtin.zeroCells, hzs]
 obtain ⟨cs', e1, e2, e3, e4⟩ := slices_Compact.setCells_blk (Builtin.zeroCells z.cells m).toList (xs.length * d.sz) hh; have hmul : (xs.length + m) * d.sz ≤ c * d.sz := Nat.mul_le_mul_right _ hm; rw [Nat.add_mul] at hmul
 have hcell : ∀ j, j < m * d.sz → (W.cell? ⟨g, xs.length * d.sz + 0 + j, none⟩).isSome = true := by
  intro j hj; rw [blk_cell hh, Array.getElem?_eq_getElem (by rw [hcs]; omega)]; rfl
 refine ⟨W.setCells g (xs.length * d.sz) (Builtin.zeroCells z.cells m).toList, fun ty => ?_, ⟨hok, inner, ⟨ho1, Or.inr ⟨g, c, cs', rfl, hb, e1, h2, hcm, by rw [e2]; exact hcs, ?_⟩⟩, hr.imp_ (fun p c hp => hM _ _ _ _ _ _ hp)⟩, e4⟩
 ·have hst := run_storeCells_cells (P := Tryz.prog) g (xs.length * d.sz) (Builtin.zeroCells z.cells m).toList 0 W (by rw [hzl]; exact hcell) (by intro j _; exact blk_frozen hh _) (by
   intro v hv2; simp only [Builtin.zeroCells, Array.toList_map, List.mem_map] at hv2; obtain ⟨i, hi, rfl⟩ := hv2; have hlt : i % z.cells.size < z.cells.size := Nat.mod_lt _ (by omega); rw [getElem!_pos z.cells _ hlt]
   exact h1 _ (Array.getElem_mem hlt))
  simp only [Nat.add_zero] at hst; obtain ⟨m', rfl⟩ : ∃ m', m = m' + 1 := ⟨m - 1, by omega⟩
  simp [Builtin.clear_, run_underlying ht, hv, hst]
 ·rw [← htake]
  apply List.ext_getElem?
  intro i
  by_cases hi : i < xs.length * d.sz
  ·rw [List.getElem?_take_of_lt hi, List.getElem?_take_of_lt hi, Array.getElem?_toList, Array.getElem?_toList, e3 i hi]
  ·rw [List.getElem?_take_eq_none (by omega), List.getElem?_take_eq_none (by omega)]
theorem slices_Compact.M (W W' : World) (base : Nat) (ok : Nat → Prop) (p : S37) (c : List Value) (h : k37.M W base ok p c) : k37.M W' base ok p c := by
 have e := k37_openM h; rw [e]; exact k37_mkM _ _ _ p
theorem slices_Compact.zero (w : World) : (zeroValue 37).run Tryz.prog w = .ok (.agg #[.int .i64 0, .int .i64 0]) w := by kernel_rfl
theorem slices_Compact.calls (k : Nat) (P0_ : Nat → Prop) (u9000_ : Value) (l0 : List (S37)) (r : List (S37)) (w0 w : World) (hB : Below w0.heap.size w0 w) (ho0 : Kd.R k37 37 w w0.heap.size P0_ u9000_ l0) (h : slices_Compact.f k l0 = some r) :
  Calls Tryz.prog 65 #[u9000_] w fun e w' => ∃ v0_ : Value, e = .returned (v0_) ∧ Kd.R k37 37 w' w0.heap.size (fun k_ => (P0_ k_ ∨ w.heap.size ≤ k_)) v0_ r ∧ Below w0.heap.size w0 w' ∧ Kept w w' (fun k_ => P0_ k_) := by
 have hu37 := Tryz.underlying37; have HO0 := ak (show Kd.R k37 37 w w0.heap.size (fun k_ => (P0_ k_ ∨ w.heap.size ≤ k_)) u9000_ l0 from Kd.R_mono ho0 (fun k_ hk => (.inl hk))); have HK := ak (Kept.refl w (fun k_ => P0_ k_)); have HW0 := ak hB.size; have HB := ak hB; clear hB; have H : (if (l0.length : Int) < 2 then (some l0) else (slices_Compact.l0 k l0 1)) = some r := h; clear h
 by_cases c2 : (l0.length : Int) < 2
 ·rw [if_pos c2] at H
  have c2b0 := decide_eq_true c2; have c2b1 : decide (l0.length < 2) = true := decide_eq_true (by omega); clear c2; obtain rfl := Option.some.inj H; obtain ⟨Ao3, co3, eo3⟩ := Kd.R_slice HO0.out; subst eo3
  go_enter Tryz.func65, Tryz.ntmps65
  go_wp2
  repeat (go_quiet (fail); try go_wp2)
  go_ret; exact ⟨_, eq_, rq HO0, bq, kq⟩
 ·rw [if_neg c2] at H
  have c2b0 := decide_eq_false c2; have c2b1 : decide (l0.length < 2) = false := decide_eq_false (by omega); clear c2; have H' := ak H; clear H; obtain ⟨Ao4, co4, eo4⟩ := Kd.R_slice HO0.out; subst eo4
  go_enter Tryz.func65, Tryz.ntmps65
  go_wp2
  repeat (go_quiet (fail); try go_wp2)
  go_loopg [3] k (fun kq v3 w' => ∃ (x0_1 : List (S37)) (x3_1 : Int), v3 = .int .i64 x3_1 ∧ Aside0 (slices_Compact.l0 kq x0_1 x3_1 = some r) ∧ Aside0 (kq ≤ k) ∧ Aside0 (Kd.R k37 37 w' w0.heap.size (fun k_ => (P0_ k_ ∨ w.heap.size ≤ k_)) (.slice Ao4 l0.length co4) x0_1) ∧ Aside0 (Kept w w' (fun k_ => P0_ k_)) ∧ Aside0 (Below w0.heap.size w0 w'))
  case atStart => exact ⟨(l0), (1), sq, H', ⟨Nat.le_refl _⟩, ⟨rq HO0⟩, ⟨kq⟩, ⟨bq⟩⟩
  case round =>
   clear H'; (try clear c2b0); (try clear c2b1); obtain ⟨x0_1, x3_1, rfl, HA, HK1, HO_0, HK, HB⟩ := hrel; have hl0_1 := (Kd.R_reads' HO_0.out).1; rw [hl0_1] at HO_0
   (try simp only [hl0_1])
   cases gk with
   | zero => exact absurd HA.out (by simp [slices_Compact.l0])
   | succ k1 =>
    have H := HA.out; clear HA; simp only [slices_Compact.l0] at H
    by_cases c5 : x3_1 < (x0_1.length : Int)
    ·rw [if_pos c5] at H
     have c5b0 := decide_eq_true c5; clear c5
     revert H; refine ig_ fun c6 H => ?_
     have c6b0 := decide_eq_true c6; clear c6; obtain ⟨ji7, hji7⟩ : ∃ j_ : Int, (wrap64 (x3_1 - 1)) = j_ := ⟨_, rfl⟩
     (rw [hji7] at H)
     have hji7w : (IntKind.i64.wrap (x3_1 - 1)) = ji7 := (i64_w _).trans hji7
     revert H; refine ig_ fun c8 H => ?_
     have c8b0 := decide_eq_true c8; clear c8
     revert H; refine ig_ fun c9 H => ?_
     have c9b0 := decide_eq_true c9; clear c9
     by_cases c10 : (((rd_T37 x0_1 x3_1).f0) == ((rd_T37 x0_1 (ji7)).f0) && (((rd_T37 x0_1 x3_1).f1) == ((rd_T37 x0_1 (ji7)).f1))) = true
     ·rw [if_pos c10] at H
      have c10b0 : (((rd_T37 x0_1 x3_1).f0) == ((rd_T37 x0_1 (ji7)).f0) && (((rd_T37 x0_1 x3_1).f1) == ((rd_T37 x0_1 (ji7)).f1))) = true := c10
      (try (have c10b1 : decide (((rd_T37 x0_1 x3_1).f0) = ((rd_T37 x0_1 (ji7)).f0) && (((rd_T37 x0_1 x3_1).f1) == ((rd_T37 x0_1 (ji7)).f1))) = true := by simpa using c10))
      (try (have c10b2 : (((rd_T37 x0_1 x3_1).f0) == ((rd_T37 x0_1 (ji7)).f0) && (((rd_T37 x0_1 x3_1).f1) == ((rd_T37 x0_1 (ji7)).f1))) = true := by simpa using c10))
      clear c10; have c11b0 := eq_true (dq : 0 ≤ x3_1)
      revert H; refine ig_ fun c12 H => ?_
      have c12b0 := eq_true c12; have c12b1 := decide_eq_true c12; clear c12; obtain ⟨m13, hm13⟩ : ∃ m_ : Nat, m_ = (x3_1 : Int).toNat := ⟨_, rfl⟩; obtain ⟨n13, hn13⟩ : ∃ n_ : Nat, n_ = x0_1.length - m13 := ⟨_, rfl⟩; rw [← hm13, ← hn13] at H; have Nm13 := ak hm13; have Nn13 := ak hn13; clear hm13 hn13; have H' := ak H; clear H; have p291 : 0 ≤ (x3_1 : Int) := dq; have q291 : x3_1 < (x0_1.length : Int) := dq; obtain ⟨ad291, e291, hx291_0, hx291_1⟩ := at_T37 (Kd.R_reads' HO_0.out).2.2 x3_1 p291 q291; cases e291; replace p291 := eq_true p291; replace q291 := eq_true q291; have p292 : 0 ≤ ((ji7) : Int) := dq; have q292 : (ji7) < (x0_1.length : Int) := dq; obtain ⟨ad292, e292, hx292_0, hx292_1⟩ := at_T37 (Kd.R_reads' HO_0.out).2.2 (ji7) p292 q292; obtain rfl : ad291 = ad292 := (by injection e292); replace p292 := eq_true p292; replace q292 := eq_true q292; have q13 : (x3_1 : Int) ≤ ((x0_1.length : Int) : Int) := dq; obtain ⟨i013, hi013, _, hsz13, _⟩ := info_parts info37; have hroom13 : x0_1.length ≤ co4 := (Kd.R_reads' HO_0.out).2.1; have hC13 : Kd.C k37 _ (some ad291) x0_1.length x0_1 := (Kd.R_reads' HO_0.out).2.2; have q013 : (0 : Int) ≤ (x3_1 : Int) := dq; have hcut13 := cut_from (P := Tryz.prog) 24 37 .i64 Tryz.underlying24 hi013 2 hsz13 (some ad291) x0_1.length co4 x3_1 q013 q13; obtain ⟨A13, hA13⟩ : ∃ A1, A1 = (if co4 = (x3_1 : Int).toNat then (some ad291) else ((some ad291) : Option Addr).map (·.add ((x3_1 : Int).toNat * 2))) := ⟨_, rfl⟩; obtain ⟨c13, hc13⟩ : ∃ c1, c1 = co4 - (x3_1 : Int).toNat := ⟨_, rfl⟩; have hy13 : n13 = x0_1.length - (x3_1 : Int).toNat := (by rw [Nn13.out, Nm13.out]); rw [← hy13, ← hA13, ← hc13] at hcut13; clear hC13 hroom13 hi013 hsz13 hc13; have KY13 := ak hy13; rw [← Nm13.out] at hA13; have KA13 := ak hA13; clear hy13 hA13; have KL13 := ak (show m13 ≤ x0_1.length from by rw [Nm13.out]; omega); replace q13 := eq_true q13; go_wp2
      repeat (go_quiet (fail); try go_wp2)
      generalize ad291.add ((x3_1 : Int).toNat * 2) = p18_
      generalize ad291.add ((ji7 : Int).toNat * 2) = p23_
      go_loopg [3, 5] k1 (fun kq v3 v5 w' => ∃ (x0_2 : List (S37)) (x3_2 : Int) (x5_2 : Int), v3 = .int .i64 x3_2 ∧ v5 = .int .i64 x5_2 ∧ Aside0 (slices_Compact.l1 kq x0_2 x3_2 m13 n13 x5_2 = some r) ∧ Aside0 (kq ≤ k1) ∧ Aside0 (Kd.R k37 37 w' w0.heap.size (fun k_ => (P0_ k_ ∨ w.heap.size ≤ k_)) (.slice (some ad291) x0_1.length co4) x0_2) ∧ Aside0 (Kept w w' (fun k_ => P0_ k_)) ∧ Aside0 (Below w0.heap.size w0 w'))
      case atStart => exact ⟨(x0_1), (x3_1), (1), sq, sq, H', ⟨Nat.le_refl _⟩, ⟨by (with_reducible repeat (apply Kd.R_drewN)); exact HO_0.out⟩, ⟨kq⟩, ⟨bq⟩⟩
      case round =>
       clear H'; (try clear c5b0); (try clear c6b0); (try clear c8b0); (try clear c9b0); (try clear c10b0); (try clear c10b1); (try clear c10b2); (try clear c11b0); (try clear c12b0); (try clear c12b1); (try clear q13); (try clear hx291_0); (try clear hx291_1); (try clear hx292_0); (try clear hx292_1); (try clear p291); (try clear p292); (try clear q013); (try clear q291); (try clear q292); obtain ⟨x0_2, x3_2, x5_2, rfl, rfl, HA, HK2, HO_0, HK, HB⟩ := hrel; have hl0_2 := (Kd.R_reads' HO_0.out).1; rw [hl0_2] at HO_0
       (try simp only [hl0_2])
       cases gk with
       | zero => exact absurd HA.out (by simp [slices_Compact.l1])
       | succ k2 =>
        have H := HA.out; clear HA; simp only [slices_Compact.l1] at H; obtain ⟨y293, hy293⟩ : ∃ y_ : List (S37), y_ = (x0_2.drop m13) := ⟨_, rfl⟩; simp only [← hy293] at H
        have hyn13 : y293.length = n13 := by rw [hy293, List.length_drop, Nn13.out, ← hl0_2]
        have hrC := Kd.C_drop (m := m13) (c := co4) (Kd.R_reads' HO_0.out).2.2 (by rw [← hl0_2]; exact KL13.out) (Kd.R_reads' HO_0.out).2.1; rw [← hy293, hyn13] at hrC; replace hrC : Kd.C k37 _ A13 n13 y293 := (by rw [KA13.out]; exact hrC); have HR296 := ak hrC; clear hrC hy293
        by_cases c14 : x5_2 < (n13 : Int)
        ·rw [if_pos c14] at H
         have c14b0 := decide_eq_true c14; clear c14
         revert H; refine ig_ fun c15 H => ?_
         have c15b0 := decide_eq_true c15; clear c15; obtain ⟨ji16, hji16⟩ : ∃ j_ : Int, (wrap64 (x5_2 - 1)) = j_ := ⟨_, rfl⟩
         (rw [hji16] at H)
         have hji16w : (IntKind.i64.wrap (x5_2 - 1)) = ji16 := (i64_w _).trans hji16
         revert H; refine ig_ fun c17 H => ?_
         have c17b0 := decide_eq_true c17; clear c17
         revert H; refine ig_ fun c18 H => ?_
         have c18b0 := decide_eq_true c18; clear c18
         by_cases c19 : (!(((rd_T37 y293 x5_2).f0) == ((rd_T37 y293 (ji16)).f0)) || (!(((rd_T37 y293 x5_2).f1) == ((rd_T37 y293 (ji16)).f1)))) = true
         ·rw [if_pos c19] at H
          have c19b0 : (!(((rd_T37 y293 x5_2).f0) == ((rd_T37 y293 (ji16)).f0)) || (!(((rd_T37 y293 x5_2).f1) == ((rd_T37 y293 (ji16)).f1)))) = true := c19; clear c19
          revert H; refine ig_ fun c20 H => ?_
          have c20b0 := decide_eq_true c20; clear c20
          revert H; refine ig_ fun c21 H => ?_
          have c21b0 := decide_eq_true c21; clear c21; obtain ⟨y300, hy300⟩ : ∃ y_ : List (S37), y_ = (x0_2.set (x3_2 : Int).toNat (⟨(rd_T37 y293 x5_2).f0, (rd_T37 y293 x5_2).f1⟩ : S37)) := ⟨_, rfl⟩
          replace H : (slices_Compact.l1 k2 y300 (wrap64 (x3_2 + 1)) m13 n13 (wrap64 (x5_2 + 1))) = some r := by first | (rw [hy300]; with_reducible exact H) | (have H2_ := (Option.bind_some _ _).symm.trans H; rw [hy300]; with_reducible exact H2_) | (have H2_ := (Option.bind_some _ _).symm.trans H; with_reducible exact H2_) | with_reducible exact H | (rw [hy300]; exact H) | exact H
          have Ny300 := ak hy300; clear hy300; have H' := ak H; clear H; have p297 : 0 ≤ (x5_2 : Int) := dq; have q297 : x5_2 < (n13 : Int) := dq; obtain ⟨ad297, e297, hx297_0, hx297_1⟩ := at_T37 HR296.out x5_2 p297 q297; cases e297; replace p297 := eq_true p297; replace q297 := eq_true q297; have p298 : 0 ≤ ((ji16) : Int) := dq; have q298 : (ji16) < (n13 : Int) := dq; obtain ⟨ad298, e298, hx298_0, hx298_1⟩ := at_T37 HR296.out (ji16) p298 q298; obtain rfl : ad297 = ad298 := (by injection e298); replace p298 := eq_true p298; replace q298 := eq_true q298; have p299 : 0 ≤ (x5_2 : Int) := dq; have q299 : x5_2 < (n13 : Int) := dq; obtain ⟨ad299, e299, hx299_0, hx299_1⟩ := at_T37 HR296.out x5_2 p299 q299; obtain rfl : ad297 = ad299 := (by injection e299); replace p299 := eq_true p299; replace q299 := eq_true q299; have p22 : 0 ≤ (x3_2 : Int) := dq; have q22 : (x3_2 : Int) < ((x0_2.length : Int) : Int) := dq; obtain ⟨go22, co22, eo22, gb22, gl22, cl22, HG22⟩ := Kd.R_form HO_0.out (by omega)
          (first | cases eo22 | (injection eo22 with ea_ en_ ec_; (fail); subst ec_; clear en_))
          have GB22 := ak gb22; have GG22 := ak HG22; clear gb22 gl22 HG22; have HMgo22 := ak (show (P0_ go22 ∨ w.heap.size ≤ go22) from (HO_0.out.1 _ rfl))
          (skip)
          (skip)
          (skip)
          (skip)
          obtain ⟨ce22, hcl22, hM22, hcc22, hfr22⟩ := Kd.R_elem HO_0.out z37 (x3_2 : Int) p22 q22; obtain rfl := k37_openM hM22; have hx22_0 : wr.cell? ⟨go22, (x3_2 : Int).toNat * 2, none⟩ = some (.int .i64 ((rd_T37 x0_2 x3_2).f0)) := hcc22 0 _ rfl; have hx22_1 : wr.cell? ⟨go22, (x3_2 : Int).toNat * 2 + 1, none⟩ = some (.int .i64 ((rd_T37 x0_2 x3_2).f1)) := hcc22 1 _ rfl; have hf22_0 : wr.frozen? ⟨go22, (x3_2 : Int).toNat * 2, none⟩ = false := hfr22 0; have hf22_1 : wr.frozen? ⟨go22, (x3_2 : Int).toNat * 2 + 1, none⟩ = false := hfr22 1; clear hcl22 hcc22 hfr22 hM22; replace p22 := eq_true p22; replace q22 := eq_true q22; have HX23 := ak (show Kd.R k37 37 wr w0.heap.size (fun k_ => (P0_ k_ ∨ w.heap.size ≤ k_)) (.slice (some ⟨go22, 0, none⟩) x0_2.length co4) x0_2 from (rq HO_0)); obtain ⟨ce23, hcl23, hM23, hcc23, hfr23⟩ := Kd.R_elem HX23.out z37 (x3_2 : Int) (dq) (by have h_ : (x3_2 : Int) < ((x0_2.length : Int) : Int) := dq; exact h_); obtain rfl := k37_openM hM23; have HP23 := Kd.R_seg HX23.out (x3_2 : Int) (dq) (by have h_ : (x3_2 : Int) < ((x0_2.length : Int) : Int) := dq; exact h_) (seg := [.int .i64 ((rd_T37 y293 x5_2).f0), .int .i64 ((rd_T37 y293 x5_2).f1)]) (j := 0) hcl23 hcc23 (show 2 ≤ 2 from by decide) (x' := (⟨(rd_T37 y293 x5_2).f0, (rd_T37 y293 x5_2).f1⟩ : S37)) (k37_mkM _ _ _ (⟨(rd_T37 y293 x5_2).f0, (rd_T37 y293 x5_2).f1⟩ : S37) ) (fun _ hk => hk); have hx23_0 := hcc23 0 _ rfl
          (try simp only [show (k37).sz = 2 from rfl, Nat.mul_one, Nat.add_zero] at hx23_0)
          have hf23_0 := hfr23 0
          (try simp only [show (k37).sz = 2 from rfl, Nat.mul_one, Nat.add_zero] at hf23_0)
          have hx23_1 := hcc23 1 _ rfl
          (try simp only [show (k37).sz = 2 from rfl, Nat.mul_one, Nat.add_zero] at hx23_1)
          have hf23_1 := hfr23 1
          (try simp only [show (k37).sz = 2 from rfl, Nat.mul_one, Nat.add_zero] at hf23_1)
          clear hcl23 hcc23 hfr23 hM23
          go_wp2_with (fail)
          repeat (go_quiet (fail); try go_wp2_with (((with_reducible refine gate_store (t := 37) (p := 51) rfl ?_); (try (rw [drewN_self wr]; generalize hq_ : World.drewN wr _ = wr; have n0_ := ak (Kd.R_at hq_ HO_0.out); have n1_ := ak (kept_at hq_ HK.out); have n2_ := ak (below_at hq_ HB.out); clear hq_ HO_0 HK HB; have HO_0 := n0_; have HK := n1_; have HB := n2_; clear n0_ n1_ n2_; (try (have HX23 := ak (show Kd.R k37 37 wr w0.heap.size (fun k_ => (P0_ k_ ∨ w.heap.size ≤ k_)) (.slice (some ⟨go22, 0, none⟩) x0_2.length co4) x0_2 from (rq HO_0)))); (try (obtain ⟨ce23, hcl23, hM23, hcc23, hfr23⟩ := Kd.R_elem HX23.out z37 (x3_2 : Int) (dq) (by have h_ : (x3_2 : Int) < ((x0_2.length : Int) : Int) := dq; exact h_))); (try (obtain rfl := k37_openM hM23)); (try (have HP23 := Kd.R_seg HX23.out (x3_2 : Int) (dq) (by have h_ : (x3_2 : Int) < ((x0_2.length : Int) : Int) := dq; exact h_) (seg := [.int .i64 ((rd_T37 y293 x5_2).f0), .int .i64 ((rd_T37 y293 x5_2).f1)]) (j := 0) hcl23 hcc23 (show 2 ≤ 2 from by decide) (x' := (⟨(rd_T37 y293 x5_2).f0, (rd_T37 y293 x5_2).f1⟩ : S37)) (k37_mkM _ _ _ (⟨(rd_T37 y293 x5_2).f0, (rd_T37 y293 x5_2).f1⟩ : S37) ) (fun _ hk => hk))); (try (have hx23_0 := hcc23 0 _ rfl)); (try (try simp only [show (k37).sz = 2 from rfl, Nat.mul_one, Nat.add_zero] at hx23_0)); (try (have hf23_0 := hfr23 0)); (try (try simp only [show (k37).sz = 2 from rfl, Nat.mul_one, Nat.add_zero] at hf23_0)); (try (have hx23_1 := hcc23 1 _ rfl)); (try (try simp only [show (k37).sz = 2 from rfl, Nat.mul_one, Nat.add_zero] at hx23_1)); (try (have hf23_1 := hfr23 1)); (try (try simp only [show (k37).sz = 2 from rfl, Nat.mul_one, Nat.add_zero] at hf23_1)); (try (clear hcl23 hcc23 hfr23 hM23)))); refine store_event (t := 37) (p := 51) (v := ?vo_w24) (w1 := ((wr.setCell ⟨go22, (x3_2 : Int).toNat * 2, none⟩ (.int .i64 ((rd_T37 y293 x5_2).f0))).setCell ⟨go22, (x3_2 : Int).toNat * 2 + 1, none⟩ (.int .i64 ((rd_T37 y293 x5_2).f1)))) ?hg ?ho ?hn ?hr ?_; (case ho => rfl); (case hg => rfl); (case hn => rfl); (case hr => (go_simp; done)); intro w24 hw; have hg : wr.grownBy w24 (some go22) := (by rw [hw]; exact HP23.2); have hp_ : Kd.R k37 37 w24 w0.heap.size (fun k_ => (P0_ k_ ∨ w.heap.size ≤ k_)) (.slice (some ⟨go22, 0, none⟩) x0_2.length co4) y300 := (by rw [hw, Ny300.out]; exact HP23.1); clear HP23; have n0_ := ak (hp_); have n1_ := ak ((by rw [hw]; exact below_set (below_set (HB.out) GB22.out) GB22.out : Below w0.heap.size w0 w24)); have n2_ := ak (Kept.of_grown (S := (fun k_ => P0_ k_)) hg kq (fun k_ e_ => (HO_0.out.1 k_ e_))); clear HO_0; clear HB; clear HK; have HO_0 := n0_; have HB := n1_; have HK := n2_; clear n0_ n1_ n2_; clear hg hw hp_)))
          (try simp only [← hl0_2])
          go_roundg k2
          case measure => have := HK1.out; have := HK2.out; omega
          case rel => exact ⟨(y300), (wrap64 (x3_2 + 1)), (wrap64 (x5_2 + 1)), sq, sq, H', ⟨by have := HK1.out; have := HK2.out; omega⟩, ⟨by (try simp only [hl0_2]); exact HO_0.out⟩, ⟨kq⟩, ⟨bq⟩⟩
         ·rw [if_neg c19] at H
          have c19b0 : (!(((rd_T37 y293 x5_2).f0) == ((rd_T37 y293 (ji16)).f0)) || (!(((rd_T37 y293 x5_2).f1) == ((rd_T37 y293 (ji16)).f1)))) = false := by simpa using c19
          clear c19; have H' := ak H; clear H; have p297 : 0 ≤ (x5_2 : Int) := dq; have q297 : x5_2 < (n13 : Int) := dq; obtain ⟨ad297, e297, hx297_0, hx297_1⟩ := at_T37 HR296.out x5_2 p297 q297; cases e297; replace p297 := eq_true p297; replace q297 := eq_true q297; have p298 : 0 ≤ ((ji16) : Int) := dq; have q298 : (ji16) < (n13 : Int) := dq; obtain ⟨ad298, e298, hx298_0, hx298_1⟩ := at_T37 HR296.out (ji16) p298 q298; obtain rfl : ad297 = ad298 := (by injection e298); replace p298 := eq_true p298; replace q298 := eq_true q298; go_wp2
          repeat (go_quiet (fail); try go_wp2)
          (try simp only [← hl0_2])
          go_roundg k2
          case measure => have := HK1.out; have := HK2.out; omega
          case rel => exact ⟨(x0_2), (x3_2), (wrap64 (x5_2 + 1)), sq, sq, H', ⟨by have := HK1.out; have := HK2.out; omega⟩, ⟨by (try simp only [hl0_2]); (with_reducible repeat (apply Kd.R_drewN)); exact HO_0.out⟩, ⟨kq⟩, ⟨bq⟩⟩
        ·rw [if_neg c14] at H
         have c14b0 := decide_eq_false c14; clear c14
         revert H; refine ig_ fun c25 H => ?_
         revert H; refine ig_ fun c26 H => ?_
         obtain ⟨i, rfl⟩ := Int.eq_ofNat_of_zero_le c25
         have hi : i < x0_2.length := by omega
         rw [Int.toNat_natCast] at H; obtain rfl := Option.some.inj H; clear H; obtain ⟨go, cap, e_, gb, gl, cl, HG⟩ := Kd.R_form HO_0.out (by omega)
         obtain ⟨e1, e3⟩ : ad291 = ⟨go, 0, none⟩ ∧ co4 = cap := by injection e_ with a_ b_ c_; injection a_ with a_; exact ⟨a_, c_⟩
         subst e1; subst e3; have hroom := (Kd.R_reads' HO_0.out).2.1; obtain ⟨i022, hi022, _, hsz22, _⟩ := info_parts info37; have hcut22 := cut_from (P := Tryz.prog) 24 37 .i64 Tryz.underlying24 hi022 2 hsz22 (some ⟨go, 0, none⟩) x0_2.length co4 (i : Int) (by omega) (by omega); have hcut23 := cut_to (P := Tryz.prog) 24 37 .i64 Tryz.underlying24 hi022 (some ⟨go, 0, none⟩) x0_2.length co4 (i : Int) (by omega) (by omega) hroom; have hr23 := Kd.R_take (m := i) HO_0.out (by omega); obtain ⟨w2, hclr, ho2, hg2⟩ := slices_Compact.R_clear k37 (n := i) (c2 := co4 - i) 24 (.agg #[.int .i64 0, .int .i64 0]) Tryz.underlying24 slices_Compact.zero rfl (by intro u hu; simp [Value.cells] at hu; rcases hu with rfl | rfl <;> rfl) (by decide) slices_Compact.M hr23 (m := x0_2.length - i) (by omega) (by omega)
         have hne : ¬ co4 = i := by omega
         have hle : (i : Int) ≤ (x0_2.length : Int) := by omega
         rw [Int.toNat_natCast, if_neg hne] at hcut22; rw [Int.toNat_natCast] at hcut23
         have eo : (some (⟨go, 0, none⟩ : Addr)).map (·.add (i * 2)) = some ⟨go, i * 2, none⟩ := by rw [Option.map_some, add_plain]
         rw [eo] at hcut22; have hszk : Kd.sz k37 = 2 := rfl; rw [hszk] at hclr; have HO2 := ak ho2; have HB2 := ak (HB.out.grown hg2 HB.out.size (fun k hk => by injection hk with hk; subst hk; exact gb)); have HK2 := ak (Kept.of_grown (S := (fun k_ => P0_ k_)) hg2 HK.out (fun k_ e_ => HO_0.out.1 k_ (by rw [← e_]; rfl))); clear ho2 hr23 hi022 hsz22 hg2 HO_0 HB HK HG gb gl; replace c25 := eq_true c25; replace c26 := eq_true c26; replace hle := eq_true hle; go_wp2; go_ret; exact ⟨_, rfl, HO2.out, HB2.out, HK2.out⟩
     ·rw [if_neg c10] at H
      have c10b0 : (((rd_T37 x0_1 x3_1).f0) == ((rd_T37 x0_1 (ji7)).f0) && (((rd_T37 x0_1 x3_1).f1) == ((rd_T37 x0_1 (ji7)).f1))) = false := by simpa using c10
      (try (have c10b1 : decide (((rd_T37 x0_1 x3_1).f0) = ((rd_T37 x0_1 (ji7)).f0) && (((rd_T37 x0_1 x3_1).f1) == ((rd_T37 x0_1 (ji7)).f1))) = false := by simpa using c10))
      (try (have c10b2 : (((rd_T37 x0_1 x3_1).f0) == ((rd_T37 x0_1 (ji7)).f0) && (((rd_T37 x0_1 x3_1).f1) == ((rd_T37 x0_1 (ji7)).f1))) = false := by simpa using c10))
      (try (have c10b3 : ¬ (((rd_T37 x0_1 x3_1).f0) = ((rd_T37 x0_1 (ji7)).f0) && (((rd_T37 x0_1 x3_1).f1) == ((rd_T37 x0_1 (ji7)).f1))) := by simpa using c10))
      clear c10; have H' := ak H; clear H; have p291 : 0 ≤ (x3_1 : Int) := dq; have q291 : x3_1 < (x0_1.length : Int) := dq; obtain ⟨ad291, e291, hx291_0, hx291_1⟩ := at_T37 (Kd.R_reads' HO_0.out).2.2 x3_1 p291 q291; cases e291; replace p291 := eq_true p291; replace q291 := eq_true q291; have p292 : 0 ≤ ((ji7) : Int) := dq; have q292 : (ji7) < (x0_1.length : Int) := dq; obtain ⟨ad292, e292, hx292_0, hx292_1⟩ := at_T37 (Kd.R_reads' HO_0.out).2.2 (ji7) p292 q292; obtain rfl : ad291 = ad292 := (by injection e292); replace p292 := eq_true p292; replace q292 := eq_true q292; go_wp2
      repeat (go_quiet (fail); try go_wp2)
      (try simp only [← hl0_1])
      go_roundg k1
      case measure => have := HK1.out; omega
      case rel => exact ⟨(x0_1), (wrap64 (x3_1 + 1)), sq, H', ⟨by have := HK1.out; omega⟩, ⟨by (try simp only [hl0_1]); (with_reducible repeat (apply Kd.R_drewN)); exact HO_0.out⟩, ⟨kq⟩, ⟨bq⟩⟩
    ·rw [if_neg c5] at H
     have c5b0 := decide_eq_false c5; clear c5; obtain rfl := Option.some.inj H; go_wp2
     repeat (go_quiet (fail); try go_wp2)
     go_ret; exact ⟨_, eq_, rq HO_0, bq, kq⟩
end
/-! ### impl_besides: function 34 -/
mutual
def impl_besides.l0 : Nat → List (S37) → List (S37) → List (S37) → Int → Int → Option ((List (S37)))
 | 0, _, _, _, _, _ => none
 | k + 1, x0, x3, x10, x11, x12 => if x12 < x11 then (if 0 ≤ x12 then (if x12 < (x10.length : Int) then (impl_besides.l1 k x0 x3 x10 x11 x12 0 ((rd_T37 x10 x12).f0) ((rd_T37 x10 x12).f1)) else (none)) else (none)) else ((slices_SortFunc_compareCells.f x3).bind fun t430 => ((slices_Compact.f k t430).bind fun t431 => (some t431)))
def impl_besides.l1 : Nat → List (S37) → List (S37) → List (S37) → Int → Int → Int → Int → Int → Option ((List (S37)))
 | 0, _, _, _, _, _, _, _, _ => none
 | k + 1, x0, x3, x10, x11, x12, x21, x436000, x436001 => if x21 < 4 then (if 0 ≤ x21 then ((slices_Contains.f k x0 (wrap64 (x436000 + (sel4 x21 1 (-1) 0 0))) (wrap64 (x436001 + (sel4 x21 0 0 1 (-1))))).bind fun t438 => (if t438 = true then (impl_besides.l1 k x0 x3 x10 x11 x12 (wrap64 (x21 + 1)) x436000 x436001) else (if x3.length < 8796093022208 then (impl_besides.l1 k x0 (x3 ++ [(⟨wrap64 (x436000 + (sel4 x21 1 (-1) 0 0)), wrap64 (x436001 + (sel4 x21 0 0 1 (-1)))⟩ : S37)]) x10 x11 x12 (wrap64 (x21 + 1)) x436000 x436001) else (none)))) else (none)) else (impl_besides.l0 k x0 x3 x10 x11 (wrap64 (x12 + 1)))
end
def impl_besides.f (k : Nat) (l0 : List (S37)) : Option ((List (S37))) := impl_besides.l0 k l0 (([] : List (S37))) l0 (l0.length : Int) 0
theorem impl_besides.calls (k : Nat) (A0 : Option Addr) (c0 : Nat) (l0 : List (S37)) (r : List (S37)) (w : World) (hr0 : Kd.C k37 w A0 l0.length l0) (hc0 : l0.length ≤ c0) (h : impl_besides.f k l0 = some r) :
  Calls Tryz.prog 34 #[.slice A0 l0.length c0] w fun e w' => ∃ v0_ : Value, e = .returned (v0_) ∧ Kd.R k37 37 w' w.heap.size (fun _ => True) v0_ r ∧ Below w.heap.size w w' := by
 have hu37 := Tryz.underlying37; have hu76 := Tryz.underlying76; have HR0 := ak hr0; have HC0 := ak hc0; clear hr0 hc0; have HB := ak (Below.refl w.heap.size w); have H : (impl_besides.l0 k l0 (([] : List (S37))) l0 (l0.length : Int) 0) = some r := h; clear h; obtain ⟨y427, hy427⟩ : ∃ y_ : List (S37), y_ = (([] : List (S37))) := ⟨_, rfl⟩
 replace H : (impl_besides.l0 k l0 y427 l0 (l0.length : Int) 0) = some r := by first | (rw [hy427]; with_reducible exact H) | (have H2_ := (Option.bind_some _ _).symm.trans H; rw [hy427]; with_reducible exact H2_) | (have H2_ := (Option.bind_some _ _).symm.trans H; with_reducible exact H2_) | with_reducible exact H | (rw [hy427]; exact H) | exact H
 have Ny427 := ak hy427; clear hy427; have H' := ak H; clear H
 go_enter Tryz.func34, Tryz.ntmps34
 go_wp2_with (((with_reducible refine gate_dst (N := 9) rfl ?_); refine Kd.R_lit k37 _ 37 ?hg (N := 9) ?hd (xs := ([] : List (S37))) (inner := []) (ok := fun _ => True) (okp := fun _ => True) ?hr ?hp (fun _ hk => hk) trivial (Below.refl _ _) (Nat.le_refl _) (by simp) ?_; (case hd => rfl); (case hg => rfl); (case hr => (go_simp; done)); (case hp => exact (Reps.none _ _)); intro v428 w2 ho3 hb hg_ hnew_; clear hg_ hnew_; (rw [← Ny427.out] at ho3); have n0_ := ak (Kd.R_lower ho3 (below_size bq)); have n1_ := ak (below_step bq hb); clear HB; have HO429 := n0_; have HB := n1_; clear n0_ n1_; clear hb ho3))
 go_loopg [3, 12] k (fun kq v3 v12 w' => ∃ (x3_1 : List (S37)) (x12_1 : Int), v12 = .int .i64 x12_1 ∧ Aside0 (impl_besides.l0 kq l0 x3_1 l0 (l0.length : Int) x12_1 = some r) ∧ Aside0 (kq ≤ k) ∧ Aside0 (Kd.R k37 37 w' w.heap.size (fun _ => True) v3 x3_1) ∧ Aside0 (Below w.heap.size w w'))
 case atStart => exact ⟨(y427), (0), sq, H', ⟨Nat.le_refl _⟩, ⟨rq HO429⟩, ⟨bq⟩⟩
 case round =>
  clear H'; obtain ⟨x3_1, x12_1, rfl, HA, HK1, HO_3, HB⟩ := hrel
  cases gk with
  | zero => exact absurd HA.out (by simp [impl_besides.l0])
  | succ k1 =>
   have H := HA.out; clear HA; simp only [impl_besides.l0] at H
   by_cases c4 : x12_1 < (l0.length : Int)
   ·rw [if_pos c4] at H
    have c4b0 := decide_eq_true c4; clear c4
    revert H; refine ig_ fun c5 H => ?_
    have c5b0 := decide_eq_true c5; clear c5
    revert H; refine ig_ fun c6 H => ?_
    have c6b0 := decide_eq_true c6; clear c6; have H' := ak H; clear H; have p434 : 0 ≤ (x12_1 : Int) := dq; have q434 : x12_1 < (l0.length : Int) := dq; obtain ⟨ad434, e434, hx434_0, hx434_1⟩ := at_T37 HR0.out x12_1 p434 q434; cases e434; replace hx434_0 := hb_ HB hx434_0; replace hx434_1 := hb_ HB hx434_1; replace p434 := eq_true p434; replace q434 := eq_true q434
    go_wp2_with (((with_reducible refine gate_dst (N := 5) rfl ?_); refine box_event ?hg (N := 5) ?hd (cs := #[.int .i64 0, .int .i64 0]) (t := 37) ?hr ?_; (case hd => rfl); (case hg => rfl); (case hr => (go_simp; done)); intro gb435 hg w7 hbox hb; have n0_ := ak (Kd.R_below (Kd.R_elderB (rq HO_3) gb435 (Nat.le_of_eq hg.symm)) hb); have n1_ := ak (below_step bq hb); have n2_ := ak (hbox); have n3_ := ak ((by rw [hg]; exact (below_size bq) : w.heap.size ≤ gb435)); have n4_ := ak ((by rw [hg]; exact (below_size bq) : w.heap.size ≤ gb435)); clear HO_3; clear HB; have HO_3 := n0_; have HB := n1_; have BK435 := n2_; have GW435 := n3_; have GE435 := n4_; clear n0_ n1_ n2_ n3_ n4_; clear hb hbox hg; have hcz8_0 : w7.cell? ⟨gb435, 0, none⟩ = some (.int .i64 0) := (blk_cell BK435.out 0).trans rfl; have hcz8_1 : w7.cell? ⟨gb435, 1, none⟩ = some (.int .i64 0) := (blk_cell BK435.out 1).trans rfl; have hfz8_0 := blk_frozen BK435.out 0; have hfz8_1 := blk_frozen BK435.out 1))
    go_loopg [3, 21] k1 (fun kq v3 v21 w' => ∃ (x3_2 : List (S37)) (x21_2 : Int), v21 = .int .i64 x21_2 ∧ Aside0 (impl_besides.l1 kq l0 x3_2 l0 (l0.length : Int) x12_1 x21_2 ((rd_T37 l0 x12_1).f0) ((rd_T37 l0 x12_1).f1) = some r) ∧ Aside0 (kq ≤ k1) ∧ Aside0 (Kd.R k37 37 w' w.heap.size (fun k_ => k_ ≠ gb435) v3 x3_2) ∧ Aside0 (w'.heap[gb435]? = some (.cells #[.int .i64 ((rd_T37 l0 x12_1).f0), .int .i64 ((rd_T37 l0 x12_1).f1)] 37 (0, 0))) ∧ Aside0 (Below w.heap.size w w'))
    case atStart => exact ⟨(x3_1), (0), sq, H', ⟨Nat.le_refl _⟩, ⟨by exact Kd.R_mono (Kd.R_far (p := ⟨gb435, 1, none⟩) (Kd.R_far (p := ⟨gb435, 0, none⟩) (Kd.R_mono HO_3.out (fun k_ hk => (⟨hk, hk.2⟩ : _ ∧ k_ ≠ gb435))) (fun _ hk => hk.2) (.int .i64 ((rd_T37 l0 x12_1).f0))) (fun _ hk => hk.2) (.int .i64 ((rd_T37 l0 x12_1).f1))) (fun _ hk => hk.1.2)⟩, ⟨by refine blk_put (cs := #[.int .i64 ((rd_T37 l0 x12_1).f0), .int .i64 0]) ?_ 1 _ rfl; refine blk_put (cs := #[.int .i64 0, .int .i64 0]) ?_ 0 _ rfl; exact BK435.out⟩, ⟨bs⟩⟩
    case round =>
     clear H'; (try clear c4b0); (try clear c5b0); (try clear c6b0); (try clear hcz8_0); (try clear hcz8_1); (try clear hfz8_0); (try clear hfz8_1); (try clear hx434_0); (try clear hx434_1); (try clear p434); (try clear q434); obtain ⟨x3_2, x21_2, rfl, HA, HK2, HO_3, BK435, HB⟩ := hrel
     cases gk with
     | zero => exact absurd HA.out (by simp [impl_besides.l1])
     | succ k2 =>
      have H := HA.out; clear HA; simp only [impl_besides.l1] at H
      by_cases c9 : x21_2 < 4
      ·rw [if_pos c9] at H
       have c9b0 := decide_eq_true c9; clear c9
       revert H; refine ig_ fun c10 H => ?_
       have c10b0 := decide_eq_true c10; clear c10; obtain ⟨t438, A120, H⟩ := Option.bind_eq_some_iff.mp H
       have A12 := ak A120; clear A120
       by_cases c13 : t438 = true
       ·subst c13
        rw [if_pos rfl] at H; have H' := ak H; clear H; have p11 : 0 ≤ (x21_2 : Int) := dq; have q11 : x21_2 < (4 : Int) := dq; have hx11 := arrSel76 1 0 (-1) 0 0 1 0 (-1) x21_2 p11 q11; replace p11 := eq_true p11; replace q11 := eq_true q11
        go_wp2_with (first | ((with_reducible refine gate_dst (N := 7) rfl ?_); refine box_event ?hg (N := 7) ?hd (cs := #[.int .i64 0, .int .i64 0]) (t := 37) ?hr ?_; (case hd => rfl); (case hg => rfl); (case hr => (go_simp; done)); intro gb436 hg w14 hbox hb; have n0_ := ak (Kd.R_below (Kd.R_elderB (rq HO_3) gb436 (Nat.le_of_eq hg.symm)) hb); have n1_ := ak (blk_below (g := gb435) (o := .cells #[.int .i64 ((rd_T37 l0 x12_1).f0), .int .i64 ((rd_T37 l0 x12_1).f1)] 37 (0, 0)) (uq BK435) hb); have n2_ := ak (below_step bs hb); have n3_ := ak (hbox); have n4_ := ak ((by rw [hg]; exact (below_size bs) : w.heap.size ≤ gb436)); have n5_ := ak ((by rw [hg]; exact (below_size bs) : w.heap.size ≤ gb436)); have n6_ := ak ((by rw [hg]; exact Nat.ne_of_lt (blk_lt (g := gb435) (o := .cells #[.int .i64 ((rd_T37 l0 x12_1).f0), .int .i64 ((rd_T37 l0 x12_1).f1)] 37 (0, 0)) (uq BK435)) : gb435 ≠ gb436)); have n7_ := ak ((by rw [hg]; exact Nat.ne_of_gt (blk_lt (g := gb435) (o := .cells #[.int .i64 ((rd_T37 l0 x12_1).f0), .int .i64 ((rd_T37 l0 x12_1).f1)] 37 (0, 0)) (uq BK435)) : gb436 ≠ gb435)); clear HO_3; clear BK435; clear HB; have HO_3 := n0_; have BK435 := n1_; have HB := n2_; have BK436 := n3_; have GW436 := n4_; have GE436 := n5_; have NB435_436 := n6_; have NB436_435 := n7_; clear n0_ n1_ n2_ n3_ n4_ n5_ n6_ n7_; clear hb hbox hg; have hnb15 := NB436_435.out; have hnc15 := NB435_436.out; have hcz16_0 : w14.cell? ⟨gb436, 0, none⟩ = some (.int .i64 0) := (blk_cell BK436.out 0).trans rfl; have hcz16_1 : w14.cell? ⟨gb436, 1, none⟩ = some (.int .i64 0) := (blk_cell BK436.out 1).trans rfl; have hfz16_0 := blk_frozen BK436.out 0; have hfz16_1 := blk_frozen BK436.out 1; have hcz17_0 : w14.cell? ⟨gb435, 0, none⟩ = some (.int .i64 ((rd_T37 l0 x12_1).f0)) := (blk_cell BK435.out 0).trans rfl; have hcz17_1 : w14.cell? ⟨gb435, 1, none⟩ = some (.int .i64 ((rd_T37 l0 x12_1).f1)) := (blk_cell BK435.out 1).trans rfl; have hfz17_0 := blk_frozen BK435.out 0; have hfz17_1 := blk_frozen BK435.out 1) | ((with_reducible refine gate_dst (N := 8) rfl ?_); refine box_event ?hg (N := 8) ?hd (cs := #[.int .i64 0, .int .i64 0]) (t := 37) ?hr ?_; (case hd => rfl); (case hg => rfl); (case hr => (go_simp; done)); intro gb437 hg w18 hbox hb; have n0_ := ak (Kd.R_below (Kd.R_elderB (by exact (Kd.R_mono (Kd.R_far (p := ⟨gb436, 1, none⟩) (Kd.R_far (p := ⟨gb436, 0, none⟩) (Kd.R_mono HO_3.out (fun k_ hk => (⟨hk, hk.2⟩ : _ ∧ k_ ≠ gb436))) (fun _ hk => hk.2) (.int .i64 (sel4 x21_2 1 (-1) 0 0))) (fun _ hk => hk.2) (.int .i64 (sel4 x21_2 0 0 1 (-1)))) (fun _ h_ => h_.1))) gb437 (Nat.le_of_eq hg.symm)) hb); have n1_ := ak (blk_below (g := gb435) (o := .cells #[.int .i64 ((rd_T37 l0 x12_1).f0), .int .i64 ((rd_T37 l0 x12_1).f1)] 37 (0, 0)) (by refine blk_far ?_ NB435_436.out _; refine blk_far ?_ NB435_436.out _; exact BK435.out) hb); have n2_ := ak (blk_below (g := gb436) (o := .cells #[.int .i64 (sel4 x21_2 1 (-1) 0 0), .int .i64 (sel4 x21_2 0 0 1 (-1))] 37 (0, 0)) (by refine blk_put (cs := #[.int .i64 (sel4 x21_2 1 (-1) 0 0), .int .i64 0]) ?_ 1 _ rfl; refine blk_put (cs := #[.int .i64 0, .int .i64 0]) ?_ 0 _ rfl; exact BK436.out) hb); have n3_ := ak (below_step bs hb); have n4_ := ak (hbox); have n5_ := ak ((by rw [hg]; exact (below_size bs) : w.heap.size ≤ gb437)); have n6_ := ak ((by rw [hg]; exact (below_size bs) : w.heap.size ≤ gb437)); have n7_ := ak ((by rw [hg]; exact Nat.ne_of_lt (blk_lt (g := gb435) (o := .cells #[.int .i64 ((rd_T37 l0 x12_1).f0), .int .i64 ((rd_T37 l0 x12_1).f1)] 37 (0, 0)) (by refine blk_far ?_ NB435_436.out _; refine blk_far ?_ NB435_436.out _; exact BK435.out)) : gb435 ≠ gb437)); have n8_ := ak ((by rw [hg]; exact Nat.ne_of_gt (blk_lt (g := gb435) (o := .cells #[.int .i64 ((rd_T37 l0 x12_1).f0), .int .i64 ((rd_T37 l0 x12_1).f1)] 37 (0, 0)) (by refine blk_far ?_ NB435_436.out _; refine blk_far ?_ NB435_436.out _; exact BK435.out)) : gb437 ≠ gb435)); have n9_ := ak ((by rw [hg]; exact Nat.ne_of_lt (blk_lt (g := gb436) (o := .cells #[.int .i64 (sel4 x21_2 1 (-1) 0 0), .int .i64 (sel4 x21_2 0 0 1 (-1))] 37 (0, 0)) (by refine blk_put (cs := #[.int .i64 (sel4 x21_2 1 (-1) 0 0), .int .i64 0]) ?_ 1 _ rfl; refine blk_put (cs := #[.int .i64 0, .int .i64 0]) ?_ 0 _ rfl; exact BK436.out)) : gb436 ≠ gb437)); have n10_ := ak ((by rw [hg]; exact Nat.ne_of_gt (blk_lt (g := gb436) (o := .cells #[.int .i64 (sel4 x21_2 1 (-1) 0 0), .int .i64 (sel4 x21_2 0 0 1 (-1))] 37 (0, 0)) (by refine blk_put (cs := #[.int .i64 (sel4 x21_2 1 (-1) 0 0), .int .i64 0]) ?_ 1 _ rfl; refine blk_put (cs := #[.int .i64 0, .int .i64 0]) ?_ 0 _ rfl; exact BK436.out)) : gb437 ≠ gb436)); clear HO_3; clear BK435; clear BK436; clear HB; have HO_3 := n0_; have BK435 := n1_; have BK436 := n2_; have HB := n3_; have BK437 := n4_; have GW437 := n5_; have GE437 := n6_; have NB435_437 := n7_; have NB437_435 := n8_; have NB436_437 := n9_; have NB437_436 := n10_; clear n0_ n1_ n2_ n3_ n4_ n5_ n6_ n7_ n8_ n9_ n10_; clear hb hbox hg; have hnb19 := NB437_435.out; have hnc19 := NB435_437.out; have hnb20 := NB437_436.out; have hnc20 := NB436_437.out; have hcz21_0 : w18.cell? ⟨gb437, 0, none⟩ = some (.int .i64 0) := (blk_cell BK437.out 0).trans rfl; have hcz21_1 : w18.cell? ⟨gb437, 1, none⟩ = some (.int .i64 0) := (blk_cell BK437.out 1).trans rfl; have hfz21_0 := blk_frozen BK437.out 0; have hfz21_1 := blk_frozen BK437.out 1) | ((with_reducible refine gate_callee (f := 63) rfl ?_); refine goesL_ (some 37) rfl rfl Tryz.func63 (by kernel_rfl) rfl #[.slice (some ad434) l0.length c0, .agg #[.int .i64 (wrap64 (((rd_T37 l0 x12_1).f0) + (sel4 x21_2 1 (-1) 0 0))), .int .i64 (wrap64 (((rd_T37 l0 x12_1).f1) + (sel4 x21_2 0 0 1 (-1))))]] rfl aq ?_; (with_reducible refine (slices_Contains.calls k2 _ _ l0 (wrap64 (((rd_T37 l0 x12_1).f0) + (sel4 x21_2 1 (-1) 0 0))) (wrap64 (((rd_T37 l0 x12_1).f1) + (sel4 x21_2 0 0 1 (-1)))) true _ ?side1 ?side2 A12.out).mono ?_); (case side1 => exact Kd.C_below HR0.out bs); (case side2 => exact HC0.out); rintro e w22 ⟨rfl, hb⟩; refine ⟨_, rfl, ?_⟩; have n0_ := ak (Kd.R_below (by exact (Kd.R_mono (Kd.R_far (p := ⟨gb437, 1, none⟩) (Kd.R_far (p := ⟨gb437, 0, none⟩) (Kd.R_mono HO_3.out (fun k_ hk => (⟨hk, hk.2⟩ : _ ∧ k_ ≠ gb437))) (fun _ hk => hk.2) (.int .i64 (wrap64 (((rd_T37 l0 x12_1).f0) + (sel4 x21_2 1 (-1) 0 0))))) (fun _ hk => hk.2) (.int .i64 (wrap64 (((rd_T37 l0 x12_1).f1) + (sel4 x21_2 0 0 1 (-1)))))) (fun _ h_ => h_.1))) hb); have n1_ := ak (blk_below (g := gb435) (o := .cells #[.int .i64 ((rd_T37 l0 x12_1).f0), .int .i64 ((rd_T37 l0 x12_1).f1)] 37 (0, 0)) (by refine blk_far ?_ NB435_437.out _; refine blk_far ?_ NB435_437.out _; exact BK435.out) hb); have n2_ := ak (blk_below (g := gb436) (o := .cells #[.int .i64 (sel4 x21_2 1 (-1) 0 0), .int .i64 (sel4 x21_2 0 0 1 (-1))] 37 (0, 0)) (by refine blk_far ?_ NB436_437.out _; refine blk_far ?_ NB436_437.out _; exact BK436.out) hb); have n3_ := ak (blk_below (g := gb437) (o := .cells #[.int .i64 (wrap64 (((rd_T37 l0 x12_1).f0) + (sel4 x21_2 1 (-1) 0 0))), .int .i64 (wrap64 (((rd_T37 l0 x12_1).f1) + (sel4 x21_2 0 0 1 (-1))))] 37 (0, 0)) (by refine blk_put (cs := #[.int .i64 (wrap64 (((rd_T37 l0 x12_1).f0) + (sel4 x21_2 1 (-1) 0 0))), .int .i64 0]) ?_ 1 _ rfl; refine blk_put (cs := #[.int .i64 0, .int .i64 0]) ?_ 0 _ rfl; exact BK437.out) hb); have n4_ := ak (below_step bs hb); clear HO_3; clear BK435; clear BK436; clear BK437; clear HB; have HO_3 := n0_; have BK435 := n1_; have BK436 := n2_; have BK437 := n3_; have HB := n4_; clear n0_ n1_ n2_ n3_ n4_; (try clear hb)))
        go_roundg k2
        case measure => have := HK1.out; have := HK2.out; omega
        case rel => exact ⟨(x3_2), (wrap64 (x21_2 + 1)), sq, H', ⟨by have := HK1.out; have := HK2.out; omega⟩, ⟨by exact Kd.R_mono HO_3.out (fun _ hk => hk.1.1)⟩, ⟨by exact BK435.out⟩, ⟨bs⟩⟩
       ·replace c13 := Bool.eq_false_iff.mpr c13
        subst c13; rw [if_neg (show ¬ (false = true) by decide)] at H
        revert H; refine ig_ fun c23 H => ?_
        have LMc23 := ak c23; clear c23; obtain ⟨y439, hy439⟩ : ∃ y_ : List (S37), y_ = (x3_2 ++ [(⟨wrap64 (((rd_T37 l0 x12_1).f0) + (sel4 x21_2 1 (-1) 0 0)), wrap64 (((rd_T37 l0 x12_1).f1) + (sel4 x21_2 0 0 1 (-1)))⟩ : S37)]) := ⟨_, rfl⟩
        replace H : (impl_besides.l1 k2 l0 y439 l0 (l0.length : Int) x12_1 (wrap64 (x21_2 + 1)) ((rd_T37 l0 x12_1).f0) ((rd_T37 l0 x12_1).f1)) = some r := by first | (rw [hy439]; with_reducible exact H) | (have H2_ := (Option.bind_some _ _).symm.trans H; rw [hy439]; with_reducible exact H2_) | (have H2_ := (Option.bind_some _ _).symm.trans H; with_reducible exact H2_) | with_reducible exact H | (rw [hy439]; exact H) | exact H
        have Ny439 := ak hy439; clear hy439; have H' := ak H; clear H; have p11 : 0 ≤ (x21_2 : Int) := dq; have q11 : x21_2 < (4 : Int) := dq; have hx11 := arrSel76 1 0 (-1) 0 0 1 0 (-1) x21_2 p11 q11; replace p11 := eq_true p11; replace q11 := eq_true q11
        go_wp2_with (first | ((with_reducible refine gate_dst (N := 7) rfl ?_); refine box_event ?hg (N := 7) ?hd (cs := #[.int .i64 0, .int .i64 0]) (t := 37) ?hr ?_; (case hd => rfl); (case hg => rfl); (case hr => (go_simp; done)); intro gb436 hg w24 hbox hb; have n0_ := ak (Kd.R_below (Kd.R_elderB (rq HO_3) gb436 (Nat.le_of_eq hg.symm)) hb); have n1_ := ak (blk_below (g := gb435) (o := .cells #[.int .i64 ((rd_T37 l0 x12_1).f0), .int .i64 ((rd_T37 l0 x12_1).f1)] 37 (0, 0)) (uq BK435) hb); have n2_ := ak (below_step bs hb); have n3_ := ak (hbox); have n4_ := ak ((by rw [hg]; exact (below_size bs) : w.heap.size ≤ gb436)); have n5_ := ak ((by rw [hg]; exact (below_size bs) : w.heap.size ≤ gb436)); have n6_ := ak ((by rw [hg]; exact Nat.ne_of_lt (blk_lt (g := gb435) (o := .cells #[.int .i64 ((rd_T37 l0 x12_1).f0), .int .i64 ((rd_T37 l0 x12_1).f1)] 37 (0, 0)) (uq BK435)) : gb435 ≠ gb436)); have n7_ := ak ((by rw [hg]; exact Nat.ne_of_gt (blk_lt (g := gb435) (o := .cells #[.int .i64 ((rd_T37 l0 x12_1).f0), .int .i64 ((rd_T37 l0 x12_1).f1)] 37 (0, 0)) (uq BK435)) : gb436 ≠ gb435)); clear HO_3; clear BK435; clear HB; have HO_3 := n0_; have BK435 := n1_; have HB := n2_; have BK436 := n3_; have GW436 := n4_; have GE436 := n5_; have NB435_436 := n6_; have NB436_435 := n7_; clear n0_ n1_ n2_ n3_ n4_ n5_ n6_ n7_; clear hb hbox hg; have hnb25 := NB436_435.out; have hnc25 := NB435_436.out; have hcz26_0 : w24.cell? ⟨gb436, 0, none⟩ = some (.int .i64 0) := (blk_cell BK436.out 0).trans rfl; have hcz26_1 : w24.cell? ⟨gb436, 1, none⟩ = some (.int .i64 0) := (blk_cell BK436.out 1).trans rfl; have hfz26_0 := blk_frozen BK436.out 0; have hfz26_1 := blk_frozen BK436.out 1; have hcz27_0 : w24.cell? ⟨gb435, 0, none⟩ = some (.int .i64 ((rd_T37 l0 x12_1).f0)) := (blk_cell BK435.out 0).trans rfl; have hcz27_1 : w24.cell? ⟨gb435, 1, none⟩ = some (.int .i64 ((rd_T37 l0 x12_1).f1)) := (blk_cell BK435.out 1).trans rfl; have hfz27_0 := blk_frozen BK435.out 0; have hfz27_1 := blk_frozen BK435.out 1) | ((with_reducible refine gate_dst (N := 8) rfl ?_); refine box_event ?hg (N := 8) ?hd (cs := #[.int .i64 0, .int .i64 0]) (t := 37) ?hr ?_; (case hd => rfl); (case hg => rfl); (case hr => (go_simp; done)); intro gb437 hg w28 hbox hb; have n0_ := ak (Kd.R_below (Kd.R_elderB (by exact (Kd.R_mono (Kd.R_far (p := ⟨gb436, 1, none⟩) (Kd.R_far (p := ⟨gb436, 0, none⟩) (Kd.R_mono HO_3.out (fun k_ hk => (⟨hk, hk.2⟩ : _ ∧ k_ ≠ gb436))) (fun _ hk => hk.2) (.int .i64 (sel4 x21_2 1 (-1) 0 0))) (fun _ hk => hk.2) (.int .i64 (sel4 x21_2 0 0 1 (-1)))) (fun _ h_ => h_.1))) gb437 (Nat.le_of_eq hg.symm)) hb); have n1_ := ak (blk_below (g := gb435) (o := .cells #[.int .i64 ((rd_T37 l0 x12_1).f0), .int .i64 ((rd_T37 l0 x12_1).f1)] 37 (0, 0)) (by refine blk_far ?_ NB435_436.out _; refine blk_far ?_ NB435_436.out _; exact BK435.out) hb); have n2_ := ak (blk_below (g := gb436) (o := .cells #[.int .i64 (sel4 x21_2 1 (-1) 0 0), .int .i64 (sel4 x21_2 0 0 1 (-1))] 37 (0, 0)) (by refine blk_put (cs := #[.int .i64 (sel4 x21_2 1 (-1) 0 0), .int .i64 0]) ?_ 1 _ rfl; refine blk_put (cs := #[.int .i64 0, .int .i64 0]) ?_ 0 _ rfl; exact BK436.out) hb); have n3_ := ak (below_step bs hb); have n4_ := ak (hbox); have n5_ := ak ((by rw [hg]; exact (below_size bs) : w.heap.size ≤ gb437)); have n6_ := ak ((by rw [hg]; exact (below_size bs) : w.heap.size ≤ gb437)); have n7_ := ak ((by rw [hg]; exact Nat.ne_of_lt (blk_lt (g := gb435) (o := .cells #[.int .i64 ((rd_T37 l0 x12_1).f0), .int .i64 ((rd_T37 l0 x12_1).f1)] 37 (0, 0)) (by refine blk_far ?_ NB435_436.out _; refine blk_far ?_ NB435_436.out _; exact BK435.out)) : gb435 ≠ gb437)); have n8_ := ak ((by rw [hg]; exact Nat.ne_of_gt (blk_lt (g := gb435) (o := .cells #[.int .i64 ((rd_T37 l0 x12_1).f0), .int .i64 ((rd_T37 l0 x12_1).f1)] 37 (0, 0)) (by refine blk_far ?_ NB435_436.out _; refine blk_far ?_ NB435_436.out _; exact BK435.out)) : gb437 ≠ gb435)); have n9_ := ak ((by rw [hg]; exact Nat.ne_of_lt (blk_lt (g := gb436) (o := .cells #[.int .i64 (sel4 x21_2 1 (-1) 0 0), .int .i64 (sel4 x21_2 0 0 1 (-1))] 37 (0, 0)) (by refine blk_put (cs := #[.int .i64 (sel4 x21_2 1 (-1) 0 0), .int .i64 0]) ?_ 1 _ rfl; refine blk_put (cs := #[.int .i64 0, .int .i64 0]) ?_ 0 _ rfl; exact BK436.out)) : gb436 ≠ gb437)); have n10_ := ak ((by rw [hg]; exact Nat.ne_of_gt (blk_lt (g := gb436) (o := .cells #[.int .i64 (sel4 x21_2 1 (-1) 0 0), .int .i64 (sel4 x21_2 0 0 1 (-1))] 37 (0, 0)) (by refine blk_put (cs := #[.int .i64 (sel4 x21_2 1 (-1) 0 0), .int .i64 0]) ?_ 1 _ rfl; refine blk_put (cs := #[.int .i64 0, .int .i64 0]) ?_ 0 _ rfl; exact BK436.out)) : gb437 ≠ gb436)); clear HO_3; clear BK435; clear BK436; clear HB; have HO_3 := n0_; have BK435 := n1_; have BK436 := n2_; have HB := n3_; have BK437 := n4_; have GW437 := n5_; have GE437 := n6_; have NB435_437 := n7_; have NB437_435 := n8_; have NB436_437 := n9_; have NB437_436 := n10_; clear n0_ n1_ n2_ n3_ n4_ n5_ n6_ n7_ n8_ n9_ n10_; clear hb hbox hg; have hnb29 := NB437_435.out; have hnc29 := NB435_437.out; have hnb30 := NB437_436.out; have hnc30 := NB436_437.out; have hcz31_0 : w28.cell? ⟨gb437, 0, none⟩ = some (.int .i64 0) := (blk_cell BK437.out 0).trans rfl; have hcz31_1 : w28.cell? ⟨gb437, 1, none⟩ = some (.int .i64 0) := (blk_cell BK437.out 1).trans rfl; have hfz31_0 := blk_frozen BK437.out 0; have hfz31_1 := blk_frozen BK437.out 1) | ((with_reducible refine gate_callee (f := 63) rfl ?_); refine goesL_ (some 37) rfl rfl Tryz.func63 (by kernel_rfl) rfl #[.slice (some ad434) l0.length c0, .agg #[.int .i64 (wrap64 (((rd_T37 l0 x12_1).f0) + (sel4 x21_2 1 (-1) 0 0))), .int .i64 (wrap64 (((rd_T37 l0 x12_1).f1) + (sel4 x21_2 0 0 1 (-1))))]] rfl aq ?_; (with_reducible refine (slices_Contains.calls k2 _ _ l0 (wrap64 (((rd_T37 l0 x12_1).f0) + (sel4 x21_2 1 (-1) 0 0))) (wrap64 (((rd_T37 l0 x12_1).f1) + (sel4 x21_2 0 0 1 (-1)))) false _ ?side1 ?side2 A12.out).mono ?_); (case side1 => exact Kd.C_below HR0.out bs); (case side2 => exact HC0.out); rintro e w32 ⟨rfl, hb⟩; refine ⟨_, rfl, ?_⟩; have n0_ := ak (Kd.R_below (by exact (Kd.R_mono (Kd.R_far (p := ⟨gb437, 1, none⟩) (Kd.R_far (p := ⟨gb437, 0, none⟩) (Kd.R_mono HO_3.out (fun k_ hk => (⟨hk, hk.2⟩ : _ ∧ k_ ≠ gb437))) (fun _ hk => hk.2) (.int .i64 (wrap64 (((rd_T37 l0 x12_1).f0) + (sel4 x21_2 1 (-1) 0 0))))) (fun _ hk => hk.2) (.int .i64 (wrap64 (((rd_T37 l0 x12_1).f1) + (sel4 x21_2 0 0 1 (-1)))))) (fun _ h_ => h_.1))) hb); have n1_ := ak (blk_below (g := gb435) (o := .cells #[.int .i64 ((rd_T37 l0 x12_1).f0), .int .i64 ((rd_T37 l0 x12_1).f1)] 37 (0, 0)) (by refine blk_far ?_ NB435_437.out _; refine blk_far ?_ NB435_437.out _; exact BK435.out) hb); have n2_ := ak (blk_below (g := gb436) (o := .cells #[.int .i64 (sel4 x21_2 1 (-1) 0 0), .int .i64 (sel4 x21_2 0 0 1 (-1))] 37 (0, 0)) (by refine blk_far ?_ NB436_437.out _; refine blk_far ?_ NB436_437.out _; exact BK436.out) hb); have n3_ := ak (blk_below (g := gb437) (o := .cells #[.int .i64 (wrap64 (((rd_T37 l0 x12_1).f0) + (sel4 x21_2 1 (-1) 0 0))), .int .i64 (wrap64 (((rd_T37 l0 x12_1).f1) + (sel4 x21_2 0 0 1 (-1))))] 37 (0, 0)) (by refine blk_put (cs := #[.int .i64 (wrap64 (((rd_T37 l0 x12_1).f0) + (sel4 x21_2 1 (-1) 0 0))), .int .i64 0]) ?_ 1 _ rfl; refine blk_put (cs := #[.int .i64 0, .int .i64 0]) ?_ 0 _ rfl; exact BK437.out) hb); have n4_ := ak (below_step bs hb); clear HO_3; clear BK435; clear BK436; clear BK437; clear HB; have HO_3 := n0_; have BK435 := n1_; have BK436 := n2_; have BK437 := n3_; have HB := n4_; clear n0_ n1_ n2_ n3_ n4_; (try clear hb); have hcz33_0 : w32.cell? ⟨gb437, 0, none⟩ = some (.int .i64 (wrap64 (((rd_T37 l0 x12_1).f0) + (sel4 x21_2 1 (-1) 0 0)))) := (blk_cell BK437.out 0).trans rfl; have hcz33_1 : w32.cell? ⟨gb437, 1, none⟩ = some (.int .i64 (wrap64 (((rd_T37 l0 x12_1).f1) + (sel4 x21_2 0 0 1 (-1))))) := (blk_cell BK437.out 1).trans rfl; have hfz33_0 := blk_frozen BK437.out 0; have hfz33_1 := blk_frozen BK437.out 1) | ((with_reducible refine gate_builtin (b := .append) (xs := #[.tmp 39, .tmp 41]) rfl ?_); at_builtin; refine Kd.R_append k37 (w0 := w) w.heap.size rfl (.tmp 39) (.tmp 41) 24 37 (.agg #[(.int .i64 0), (.int .i64 0)]) 16 rfl Tryz.underlying24 info37 rfl (by decide) (by omega) u3 x3_2 (⟨wrap64 (((rd_T37 l0 x12_1).f0) + (sel4 x21_2 1 (-1) 0 0)), wrap64 (((rd_T37 l0 x12_1).f1) + (sel4 x21_2 0 0 1 (-1)))⟩ : S37) [.int .i64 (wrap64 (((rd_T37 l0 x12_1).f0) + (sel4 x21_2 1 (-1) 0 0))), .int .i64 (wrap64 (((rd_T37 l0 x12_1).f1) + (sel4 x21_2 0 0 1 (-1))))] (fun k_ => k_ ≠ gb435 ∧ k_ ≠ gb436 ∧ k_ ≠ gb437) (fun _ => False) rfl rfl ?aP (fun _ hk => hk.elim) ?aF ?aO ?aB ?aS ?aL ?_; (case aP => exact k37_mkM _ _ _ (⟨wrap64 (((rd_T37 l0 x12_1).f0) + (sel4 x21_2 1 (-1) 0 0)), wrap64 (((rd_T37 l0 x12_1).f1) + (sel4 x21_2 0 0 1 (-1)))⟩ : S37)); (case aB => exact bs); (case aF => exact (fun k_ hk => ⟨Kd.freshB (g := gb435) (o := .cells #[.int .i64 ((rd_T37 l0 x12_1).f0), .int .i64 ((rd_T37 l0 x12_1).f1)] 37 (0, 0)) (uq BK435) k_ hk, Kd.freshB (g := gb436) (o := .cells #[.int .i64 (sel4 x21_2 1 (-1) 0 0), .int .i64 (sel4 x21_2 0 0 1 (-1))] 37 (0, 0)) (uq BK436) k_ hk, Kd.freshB (g := gb437) (o := .cells #[.int .i64 (wrap64 (((rd_T37 l0 x12_1).f0) + (sel4 x21_2 1 (-1) 0 0))), .int .i64 (wrap64 (((rd_T37 l0 x12_1).f1) + (sel4 x21_2 0 0 1 (-1))))] 37 (0, 0)) (uq BK437) k_ hk⟩)); (case aO => exact (by exact Kd.R_mono HO_3.out (fun _ hk => ⟨hk.1.1, ⟨hk.1.2, hk.2⟩⟩))); (case aS => exact (below_size bs)); (case aL => have := LMc23.out; omega); intro v440 w34 ho hb hg hat; rw [← Ny439.out] at ho; have n0_ := ak (blk_grown (g := gb435) (o := .cells #[.int .i64 ((rd_T37 l0 x12_1).f0), .int .i64 ((rd_T37 l0 x12_1).f1)] 37 (0, 0)) (uq BK435) hg (Kd.R_away HO_3.out (fun _ hk => hk.1.1))); have n1_ := ak (blk_grown (g := gb436) (o := .cells #[.int .i64 (sel4 x21_2 1 (-1) 0 0), .int .i64 (sel4 x21_2 0 0 1 (-1))] 37 (0, 0)) (uq BK436) hg (Kd.R_away HO_3.out (fun _ hk => hk.1.2))); have n2_ := ak (blk_grown (g := gb437) (o := .cells #[.int .i64 (wrap64 (((rd_T37 l0 x12_1).f0) + (sel4 x21_2 1 (-1) 0 0))), .int .i64 (wrap64 (((rd_T37 l0 x12_1).f1) + (sel4 x21_2 0 0 1 (-1))))] 37 (0, 0)) (uq BK437) hg (Kd.R_away HO_3.out (fun _ hk => hk.2))); have n3_ := ak (hb); have n4_ := ak (ho); clear BK435; clear BK436; clear BK437; clear HB; clear HO_3; have BK435 := n0_; have BK436 := n1_; have BK437 := n2_; have HB := n3_; have HO441 := n4_; clear n0_ n1_ n2_ n3_ n4_; clear ho hb hg hat))
        go_roundg k2
        case measure => have := HK1.out; have := HK2.out; omega
        case rel => exact ⟨(y439), (wrap64 (x21_2 + 1)), sq, H', ⟨by have := HK1.out; have := HK2.out; omega⟩, ⟨by exact Kd.R_mono HO441.out (fun _ hk => hk.1)⟩, ⟨by exact BK435.out⟩, ⟨bs⟩⟩
      ·rw [if_neg c9] at H
       have c9b0 := decide_eq_false c9; clear c9; have H' := ak H; clear H; go_wp2; go_roundg k2
       case measure => have := HK1.out; have := HK2.out; omega
       case rel => exact ⟨(x3_2), (wrap64 (x12_1 + 1)), sq, H', ⟨by have := HK1.out; have := HK2.out; omega⟩, ⟨by exact Kd.R_mono HO_3.out (fun _ hk => trivial)⟩, ⟨bs⟩⟩
   ·rw [if_neg c4] at H
    have c4b0 := decide_eq_false c4; clear c4; obtain ⟨t430, A350, H⟩ := Option.bind_eq_some_iff.mp H
    have A35 := ak A350; clear A350; obtain ⟨t431, A360, H⟩ := Option.bind_eq_some_iff.mp H
    have A36 := ak A360; clear A360; obtain rfl := Option.some.inj H; obtain ⟨Ao37, co37, eo37⟩ := Kd.R_slice HO_3.out; subst eo37
    go_wp2_with (first | ((with_reducible refine gate_callee (f := 64) rfl ?_); refine goesL_ (some 46) rfl rfl Tryz.func64 (by kernel_rfl) rfl #[.slice Ao37 x3_1.length co37, .func (.func 27) #[] #[]] rfl aq ?_; (with_reducible refine (slices_SortFunc_compareCells.calls (fun k_ => some k_ = (.slice Ao37 x3_1.length co37 : Value).ownBlock) (.slice Ao37 x3_1.length co37) x3_1 t430 w _ ?side1 ?side2 A35.out).mono ?_); (case side1 => repeat ((with_reducible exact HB.out))); (case side2 => exact Kd.R_tight rfl HO_3.out); rintro e w38 ⟨rfl, hy0, hb, hkp⟩; refine ⟨_, rfl, ?_⟩; have n0_ := ak (Kd.R_reok rfl hy0 (fun k_ e_ => HO_3.out.1 k_ e_)); have n1_ := ak (hb); clear HO_3; clear HB; have HO_3 := n0_; have HB := n1_; clear n0_ n1_; (try clear hb); (try clear hkp); (try clear hy0)) | ((with_reducible refine gate_callee (f := 65) rfl ?_); refine goesL_ (some 48) rfl rfl Tryz.func65 (by kernel_rfl) rfl #[.slice Ao37 x3_1.length co37] rfl aq ?_; (with_reducible refine (slices_Compact.calls k1 (fun k_ => some k_ = (.slice Ao37 x3_1.length co37 : Value).ownBlock) (.slice Ao37 x3_1.length co37) t430 t431 w _ ?side1 ?side2 A36.out).mono ?_); (case side1 => repeat ((with_reducible exact HB.out))); (case side2 => exact Kd.R_tight rfl HO_3.out); rintro e w39 ⟨v432, rfl, ho0, hb, hkp⟩; refine ⟨_, rfl, ?_⟩; have n0_ := ak (Kd.R_mono (ok' := fun k_ => True) ho0 (fun k_ hk_ => trivial)); have n1_ := ak (hb); clear HB; clear HO_3; have HO433 := n0_; have HB := n1_; clear n0_ n1_; (try clear hb); (try clear hkp); (try clear ho0)))
    go_ret; exact ⟨_, eq_, rq HO433, bq⟩
/-! ### impl_withCell: function 36 -/
def impl_withCell.f (k : Nat) (l0 : List (S37)) (a1_0 : Int) (a1_1 : Int) : Option ((List (S37))) := (slices_Clone.f l0).bind fun t443 => ((some (([(⟨a1_0, a1_1⟩ : S37)] : List (S37)) : List (S37))).bind fun y446 => (if t443.length + y446.length < 8796093022208 then ((impl_put.f k (t443 ++ y446)).bind fun t452 => (some t452)) else (none)))
theorem impl_withCell.calls (k : Nat) (A0 : Option Addr) (c0 : Nat) (l0 : List (S37)) (a1_0 : Int) (a1_1 : Int) (r : List (S37)) (w : World) (hr0 : Kd.C k37 w A0 l0.length l0) (hc0 : l0.length ≤ c0) (h : impl_withCell.f k l0 a1_0 a1_1 = some r) :
  Calls Tryz.prog 36 #[.slice A0 l0.length c0, .agg #[.int .i64 a1_0, .int .i64 a1_1]] w fun e w' => ∃ v0_ : Value, e = .returned (v0_) ∧ Kd.R k37 37 w' w.heap.size (fun _ => True) v0_ r ∧ Below w.heap.size w w' := by
 have hu37 := Tryz.underlying37; have HR0 := ak hr0; have HC0 := ak hc0; clear hr0 hc0; have HB := ak (Below.refl w.heap.size w); have H : ((slices_Clone.f l0).bind fun t443 => ((some (([(⟨a1_0, a1_1⟩ : S37)] : List (S37)) : List (S37))).bind fun y446 => (if t443.length + y446.length < 8796093022208 then ((impl_put.f k (t443 ++ y446)).bind fun t452 => (some t452)) else (none)))) = some r := h; clear h; obtain ⟨t443, A30, H⟩ := Option.bind_eq_some_iff.mp H
 have A3 := ak A30; clear A30; obtain ⟨y446, hy446⟩ : ∃ y_ : List (S37), y_ = (([(⟨a1_0, a1_1⟩ : S37)] : List (S37))) := ⟨_, rfl⟩
 replace H : (if t443.length + y446.length < 8796093022208 then ((impl_put.f k (t443 ++ y446)).bind fun t452 => (some t452)) else (none)) = some r := by first | (rw [hy446]; with_reducible exact H) | (have H2_ := (Option.bind_some _ _).symm.trans H; rw [hy446]; with_reducible exact H2_) | (have H2_ := (Option.bind_some _ _).symm.trans H; with_reducible exact H2_) | with_reducible exact H | (rw [hy446]; exact H) | exact H
 have Ny446 := ak hy446; clear hy446
 revert H; refine ig_ fun c4 H => ?_
 have LMc4 := ak c4; clear c4; obtain ⟨y449, hy449⟩ : ∃ y_ : List (S37), y_ = (t443 ++ y446) := ⟨_, rfl⟩
 replace H : ((impl_put.f k y449).bind fun t452 => (some t452)) = some r := by first | (rw [hy449]; with_reducible exact H) | (have H2_ := (Option.bind_some _ _).symm.trans H; rw [hy449]; with_reducible exact H2_) | (have H2_ := (Option.bind_some _ _).symm.trans H; with_reducible exact H2_) | with_reducible exact H | (rw [hy449]; exact H) | exact H
 have Ny449 := ak hy449; clear hy449; obtain ⟨t452, A50, H⟩ := Option.bind_eq_some_iff.mp H
 have A5 := ak A50; clear A50; obtain rfl := Option.some.inj H
 go_enter Tryz.func36, Tryz.ntmps36
 try go_wp2_with (((with_reducible refine gate_dst (N := 3) rfl ?_); refine box_event ?hg (N := 3) ?hd (cs := #[.int .i64 a1_0, .int .i64 a1_1]) (t := 37) ?hr ?_; (case hd => rfl); (case hg => rfl); (case hr => (go_simp; done)); intro gb442 hg w6 hbox hb; have n0_ := ak (below_step bq hb); have n1_ := ak (hbox); have n2_ := ak ((by rw [hg]; exact (below_size bq) : w.heap.size ≤ gb442)); have n3_ := ak ((by rw [hg]; exact (below_size bq) : w.heap.size ≤ gb442)); clear HB; have HB := n0_; have BK442 := n1_; have GW442 := n2_; have GE442 := n3_; clear n0_ n1_ n2_ n3_; clear hb hbox hg))
 have n0_ := ak (blk_drew BK442.out); have n1_ := ak (below_drew1 HB.out); clear BK442; clear HB; have BK442 := n0_; have HB := n1_; clear n0_ n1_; refine start_ (n := 7) (S := fun w' => w'.cell? ⟨gb442, 0, none⟩ = some (.int .i64 a1_0) ∧ w'.cell? ⟨gb442, 1, none⟩ = some (.int .i64 a1_1)) (ds := []) #[Z,Z,Z,Z,Z,Z,Z] (by kernel_rfl) rfl rfl ⟨(blk_cell BK442.out 0).trans rfl, (blk_cell BK442.out 1).trans rfl⟩ (fun hHeld => ?_)
 generalize w6.drew = w7 at BK442 HB hHeld ⊢
 refine pure_ (i := 0) (N := some 5) (v := ?_) (a' := ?_) #[Y,Z,Z,Z,Z,Z,Z] rfl rfl (by kernel_rfl) (fun _ _ _ h => h) (Or.inl ⟨by rfl, ?_⟩) ?_ ?_; rotate_left
 ·intro w'
  go_simp
  with_reducible rfl
 rotate_left
 ·simp only [Act.put, sA, sZ, sS, i64_w, i32_w]
  rfl
 refine take_ (i := 2) (N := some 7) (v := ?_) (a' := ?_) #[Y,Z,Y,Z,Z,Z,Z] rfl rfl (by kernel_rfl) (fun _ _ _ h => h) (Or.inl ⟨by rfl, ?_⟩) hHeld ?_ ?_; rotate_left
 ·rintro w' ⟨s0, s1⟩
  go_simp
  with_reducible rfl
 rotate_left
 ·simp only [Act.put, sA, sZ, sS, i64_w, i32_w]
  rfl
 refine join_ (σ := Value × Value) 3 #[Y,Y,Y,Y,Z,Z,Z] (fun s_ => [(6, s_.1), (8, s_.2)]) (fun s_ w' => (w'.cell? ⟨gb442, 0, none⟩ = some (.int .i64 a1_0) ∧ w'.cell? ⟨gb442, 1, none⟩ = some (.int .i64 a1_1)) ∧ (Kd.R k37 37 w' w.heap.size (fun k_ => some k_ ≠ (s_.2 : Value).ownBlock ∧ k_ ≠ gb442) s_.1 t443) ∧ (Kd.R k37 37 w' w.heap.size (fun k_ => some k_ ≠ (s_.1 : Value).ownBlock ∧ k_ ≠ gb442) s_.2 y446) ∧ (w'.heap[gb442]? = some (.cells #[.int .i64 a1_0, .int .i64 a1_1] 37 (0, 0))) ∧ (Below w.heap.size w w')) ?_ ?_; rotate_left
 ·intro hCont
  refine two_ (i := 1) (j := 3) (Ni := some 6) (Nj := some 8) #[Y,Y,Y,Z,Z,Z,Z] #[Y,Z,Y,Y,Z,Z,Z] rfl rfl rfl rfl (by kernel_rfl) (by decide) (by decide) (fun K hK => ?_) (fun K hK => ?_)
  ·skip
   refine goes_ Tryz.func53 (by kernel_rfl) rfl #[.slice A0 l0.length c0] (by rfl) rfl rfl aq ?_
   with_reducible refine (slices_Clone.calls _ _ l0 t443 _ ?side1 ?side2 A3.out).mono ?_
   (case side1 => exact cq (Kd.C_below HR0.out HB.out))
   (case side2 => exact HC0.out)
   rintro e w8 ⟨v444, rfl, ho0, hb⟩
   refine ⟨_, rfl, ?_⟩; have n0_ := ak (Kd.R_lower (Kd.R_newB ho0 (g := gb442) (o := .cells #[.int .i64 a1_0, .int .i64 a1_1] 37 (0, 0)) (uq BK442)) (below_size bs)); have n1_ := ak (blk_below (g := gb442) (o := .cells #[.int .i64 a1_0, .int .i64 a1_1] 37 (0, 0)) (uq BK442) hb); have n2_ := ak (below_step bs hb); clear BK442; clear HB; have HO445 := n0_; have BK442 := n1_; have HB := n2_; clear n0_ n1_ n2_
   (try clear hb)
   (try clear ho0)
   refine hK.out _ _ ⟨(blk_cell BK442.out 0).trans rfl, (blk_cell BK442.out 1).trans rfl⟩ (fun hHeld => ?_); clear hK K; refine norm_ (a' := ?_) ?_ ?_; rotate_left
   ·show Act.put _ (some 6) _ = _
    simp only [Act.put, sA, sZ, sS, i64_w, i32_w]
    rfl
   refine one_ (i := 3) (N := some 8) #[Y,Y,Y,Y,Z,Z,Z] rfl rfl (by kernel_rfl) (by decide) (fun K hK => ?_); refine Kd.R_lit_step k37 _ 37 ?hg (N := 8) ?hd (xs := ([(⟨a1_0, a1_1⟩ : S37)] : List (S37))) (inner := [.int .i64 a1_0, .int .i64 a1_1]) (ok := fun _ => True) (okp := fun _ => True) ?hr ?hp (fun _ hk => hk) trivial (Below.refl _ _) (Nat.le_refl _) (by simp) ?_; (case hd => rfl); (case hg => rfl); (case hr => (go_simp; done)); (case hp => exact (Reps.c2 (show Kd.M k37 _ _ _ (⟨a1_0, a1_1⟩ : S37) [.int .i64 a1_0, .int .i64 a1_1] from (k37_mkM _ _ _ (⟨a1_0, a1_1⟩ : S37) )) (Reps.none _ _))); intro v447 w9 ho10 hb hg_ hnew_; clear hg_ hnew_
   (rw [← Ny446.out] at ho10)
   have n0_ := ak (Kd.R_elder' (rq HO445) (Kd.R_base ho10) hb); have n1_ := ak (Kd.R_lower (Kd.R_newB (Kd.R_new' ho10 (Kd.R_lt (rq HO445))) (g := gb442) (o := .cells #[.int .i64 a1_0, .int .i64 a1_1] 37 (0, 0)) (uq BK442)) (below_size bs)); have n2_ := ak (blk_below (g := gb442) (o := .cells #[.int .i64 a1_0, .int .i64 a1_1] 37 (0, 0)) (uq BK442) hb); have n3_ := ak (below_step bs hb); clear HO445; clear BK442; clear HB; have HO445 := n0_; have HO448 := n1_; have BK442 := n2_; have HB := n3_; clear n0_ n1_ n2_ n3_; clear hb ho10; refine hK.out _ _ ⟨(blk_cell BK442.out 0).trans rfl, (blk_cell BK442.out 1).trans rfl⟩ (fun hHeld => ?_); clear hK K; refine norm_ (a' := ?_) ?_ ?_; rotate_left
   ·show Act.put _ (some 8) _ = _
    simp only [Act.put, sA, sZ, sS, i64_w, i32_w]
    rfl
   exact norm_ (by simp only [putAll, Act.put, List.setIfInBounds_toArray, List.set_cons_zero, List.set_cons_succ]) (hCont (v444, v447) _ ⟨hHeld, (by exact Kd.R_mono HO445.out (fun _ hk => ⟨hk.2, hk.1.2⟩)), (by exact Kd.R_mono HO448.out (fun _ hk => ⟨hk.1.2, hk.2⟩)), (uq BK442), bs⟩)
  ·skip
   refine Kd.R_lit_step k37 _ 37 ?hg (N := 8) ?hd (xs := ([(⟨a1_0, a1_1⟩ : S37)] : List (S37))) (inner := [.int .i64 a1_0, .int .i64 a1_1]) (ok := fun _ => True) (okp := fun _ => True) ?hr ?hp (fun _ hk => hk) trivial (Below.refl _ _) (Nat.le_refl _) (by simp) ?_; (case hd => rfl); (case hg => rfl); (case hr => (go_simp; done)); (case hp => exact (Reps.c2 (show Kd.M k37 _ _ _ (⟨a1_0, a1_1⟩ : S37) [.int .i64 a1_0, .int .i64 a1_1] from (k37_mkM _ _ _ (⟨a1_0, a1_1⟩ : S37) )) (Reps.none _ _))); intro v447 w8 ho9 hb hg_ hnew_; clear hg_ hnew_
   (rw [← Ny446.out] at ho9)
   have n0_ := ak (Kd.R_lower (Kd.R_newB ho9 (g := gb442) (o := .cells #[.int .i64 a1_0, .int .i64 a1_1] 37 (0, 0)) (uq BK442)) (below_size bs)); have n1_ := ak (blk_below (g := gb442) (o := .cells #[.int .i64 a1_0, .int .i64 a1_1] 37 (0, 0)) (uq BK442) hb); have n2_ := ak (below_step bs hb); clear BK442; clear HB; have HO448 := n0_; have BK442 := n1_; have HB := n2_; clear n0_ n1_ n2_; clear hb ho9; refine hK.out _ _ ⟨(blk_cell BK442.out 0).trans rfl, (blk_cell BK442.out 1).trans rfl⟩ (fun hHeld => ?_); clear hK K; refine norm_ (a' := ?_) ?_ ?_; rotate_left
   ·show Act.put _ (some 8) _ = _
    simp only [Act.put, sA, sZ, sS, i64_w, i32_w]
    rfl
   refine one_ (i := 1) (N := some 6) #[Y,Y,Y,Y,Z,Z,Z] rfl rfl (by kernel_rfl) (by decide) (fun K hK => ?_); refine goes_ Tryz.func53 (by kernel_rfl) rfl #[.slice A0 l0.length c0] (by rfl) rfl rfl aq ?_
   with_reducible refine (slices_Clone.calls _ _ l0 t443 _ ?side1 ?side2 A3.out).mono ?_
   (case side1 => exact cq (Kd.C_below HR0.out HB.out))
   (case side2 => exact HC0.out)
   rintro e w10 ⟨v444, rfl, ho0, hb⟩
   refine ⟨_, rfl, ?_⟩; have n0_ := ak (Kd.R_elder' (rq HO448) (Kd.R_base ho0) hb); have n1_ := ak (Kd.R_lower (Kd.R_newB (Kd.R_new' ho0 (Kd.R_lt (rq HO448))) (g := gb442) (o := .cells #[.int .i64 a1_0, .int .i64 a1_1] 37 (0, 0)) (uq BK442)) (below_size bs)); have n2_ := ak (blk_below (g := gb442) (o := .cells #[.int .i64 a1_0, .int .i64 a1_1] 37 (0, 0)) (uq BK442) hb); have n3_ := ak (below_step bs hb); clear HO448; clear BK442; clear HB; have HO448 := n0_; have HO445 := n1_; have BK442 := n2_; have HB := n3_; clear n0_ n1_ n2_ n3_
   (try clear hb)
   (try clear ho0)
   refine hK.out _ _ ⟨(blk_cell BK442.out 0).trans rfl, (blk_cell BK442.out 1).trans rfl⟩ (fun hHeld => ?_); clear hK K; refine norm_ (a' := ?_) ?_ ?_; rotate_left
   ·show Act.put _ (some 6) _ = _
    simp only [Act.put, sA, sZ, sS, i64_w, i32_w]
    rfl
   exact norm_ (by simp only [putAll, Act.put, List.setIfInBounds_toArray, List.set_cons_zero, List.set_cons_succ]) (hCont (v444, v447) _ ⟨hHeld, (by exact Kd.R_mono HO445.out (fun _ hk => ⟨hk.1.2, hk.2⟩)), (by exact Kd.R_mono HO448.out (fun _ hk => ⟨hk.2, hk.1.2⟩)), (uq BK442), bs⟩)
 rintro ⟨v444, v447⟩ w11 ⟨hS_, h0_, h1_, h2_, h3_⟩
 have n0_ : Aside0 (Kd.R k37 37 w11 w.heap.size (fun k_ => some k_ ≠ (v447 : Value).ownBlock ∧ k_ ≠ gb442) v444 t443) := ⟨h0_⟩; have n1_ : Aside0 (Kd.R k37 37 w11 w.heap.size (fun k_ => some k_ ≠ (v444 : Value).ownBlock ∧ k_ ≠ gb442) v447 y446) := ⟨h1_⟩; have n2_ : Aside0 (w11.heap[gb442]? = some (.cells #[.int .i64 a1_0, .int .i64 a1_1] 37 (0, 0))) := ⟨h2_⟩; have n3_ : Aside0 (Below w.heap.size w w11) := ⟨h3_⟩; clear BK442; clear HB; clear h0_ h1_ h2_ h3_; have HO445 := n0_; have HO448 := n1_; have BK442 := n2_; have HB := n3_; clear n0_ n1_ n2_ n3_; have hHeld : w11.cell? ⟨gb442, 0, none⟩ = some (.int .i64 a1_0) ∧ w11.cell? ⟨gb442, 1, none⟩ = some (.int .i64 a1_1) := hS_; obtain ⟨Ao13, co13, eo13⟩ := Kd.R_slice HO448.out
 (subst eo13)
 refine norm_ (a' := ?_) ?_ ?_; rotate_left
 ·simp only [putAll, Act.put, List.setIfInBounds_toArray, List.set_cons_zero, List.set_cons_succ]
  rfl
 refine one_ (i := 4) (N := some 9) #[Y,Y,Y,Y,Y,Z,Z] rfl rfl (by kernel_rfl) (by decide) (fun K hK => ?_); refine Kd.R_append_rows_step k37 (w0 := w) w.heap.size (by rfl) (.tmp 6) (.tmp 8) 24 37 (.agg #[(.int .i64 0), (.int .i64 0)]) 16 rfl Tryz.underlying24 info37 rfl (by decide) (by omega) v444 t443 y446 _ _ _ (fun k_ => some k_ ≠ (.slice Ao13 y446.length co13 : Value).ownBlock ∧ k_ ≠ gb442) (fun _ => False) rfl rfl ?aO ?aR (fun _ _ h => h) (fun _ h => h.elim) ?aF ?aB ?aS ?aL ?_
 (case aR => exact cq (Kd.R_reads' HO448.out).2.2)
 (case aB => exact bs)
 (case aF => exact (fun k_ hk => ⟨Kd.fresh' (Kd.R_lt (rq HO448)) k_ hk, Kd.freshB (g := gb442) (o := .cells #[.int .i64 a1_0, .int .i64 a1_1] 37 (0, 0)) (uq BK442) k_ hk⟩))
 (case aO => exact (rq HO445))
 (case aS => exact (below_size bs))
 (case aL => have := LMc4.out; omega)
 intro v450 w12 ho hb hg hat; rw [← Ny449.out] at ho; have n0_ := ak (blk_grown (g := gb442) (o := .cells #[.int .i64 a1_0, .int .i64 a1_1] 37 (0, 0)) (uq BK442) hg (Kd.R_away HO445.out (fun _ hk => hk.2))); have n1_ := ak (Kd.R_after (ok := (fun k_ => k_ ≠ gb442)) (by exact Kd.R_mono HO448.out (fun _ hk => ⟨hk.2, hk.1⟩)) hg hat); have n2_ := ak (hb); have n3_ := ak (ho); clear BK442; clear HO448; clear HB; clear HO445; have BK442 := n0_; have HO448 := n1_; have HB := n2_; have HO451 := n3_; clear n0_ n1_ n2_ n3_; clear ho hb hg hat; obtain ⟨Ao14, co14, eo14⟩ := Kd.R_slice HO451.out
 (subst eo14)
 refine hK.out _ _ ⟨(blk_cell BK442.out 0).trans rfl, (blk_cell BK442.out 1).trans rfl⟩ (fun hHeld => ?_); clear hK K; refine norm_ (a' := ?_) ?_ ?_; rotate_left
 ·show Act.put _ (some 9) _ = _
  simp only [Act.put, sA, sZ, sS, i64_w, i32_w]
  rfl
 refine one_ (i := 5) (N := some 10) #[Y,Y,Y,Y,Y,Y,Z] rfl rfl (by kernel_rfl) (by decide) (fun K hK => ?_); refine goes_ Tryz.func50 (by kernel_rfl) rfl #[.slice Ao14 y449.length co14] (by rfl) rfl rfl aq ?_
 with_reducible refine (impl_put.calls k _ _ y449 t452 _ ?side1 ?side2 A5.out).mono ?_
 (case side1 => exact cq (Kd.R_reads' HO451.out).2.2)
 (case side2 => exact (Kd.R_reads' HO451.out).2.1)
 rintro e w15 ⟨v453, rfl, ho0, hb⟩
 refine ⟨_, rfl, ?_⟩; have n0_ := ak (Kd.R_elder' (rq HO448) (Kd.R_base ho0) hb); have n1_ := ak (Kd.R_elder' (rq HO451) (Kd.R_base ho0) hb); have n2_ := ak (Kd.R_lower (Kd.R_newB (Kd.R_new' (Kd.R_new' ho0 (Kd.R_lt (rq HO448))) (Kd.R_lt (rq HO451))) (g := gb442) (o := .cells #[.int .i64 a1_0, .int .i64 a1_1] 37 (0, 0)) (uq BK442)) (below_size bs)); have n3_ := ak (blk_below (g := gb442) (o := .cells #[.int .i64 a1_0, .int .i64 a1_1] 37 (0, 0)) (uq BK442) hb); have n4_ := ak (below_step bs hb); clear HO448; clear HO451; clear BK442; clear HB; have HO448 := n0_; have HO451 := n1_; have HO454 := n2_; have BK442 := n3_; have HB := n4_; clear n0_ n1_ n2_ n3_ n4_
 (try clear hb)
 (try clear ho0)
 refine hK.out _ _ ⟨(blk_cell BK442.out 0).trans rfl, (blk_cell BK442.out 1).trans rfl⟩ (fun hHeld => ?_); clear hK K; refine norm_ (a' := ?_) ?_ ?_; rotate_left
 ·show Act.put _ (some 10) _ = _
  simp only [Act.put, sA, sZ, sS, i64_w, i32_w]
  rfl
 refine pure_ (i := 6) (N := some 4) (v := ?_) (a' := ?_) #[Y,Y,Y,Y,Y,Y,Y] rfl rfl (by kernel_rfl) (fun _ _ _ h => h) (Or.inl ⟨by rfl, ?_⟩) ?_ ?_; rotate_left
 ·intro w'
  go_simp
  with_reducible rfl
 rotate_left
 ·simp only [Act.put, sA, sZ, sS, i64_w, i32_w]
  rfl
 refine done_ (by kernel_rfl) ?_; (try go_wp2); go_ret; exact ⟨_, eq_, by exact Kd.R_mono HO454.out (fun _ hk => trivial), bs⟩
/-! ### impl_CellsToStand_1: function 35, by hand -/
-- needs 36 32
/-- Whether the closure says that a cell goes out. -/
def impl_CellsToStand_1.f (g : List (S37)) (k : Nat) (a0_0 a0_1 : Int) : Option Bool := if a0_1 < 0 then some true else ((impl_withCell.f k g a0_0 a0_1).bind fun b => (impl_bodySide.f k b).bind fun s => some (s != 0))
theorem impl_CellsToStand_1.calls (g : List (S37)) (pc : Addr) (k : Nat) (a0_0 a0_1 : Int) (r : Bool) (w : World) (hcap : CapR w pc g) (h : impl_CellsToStand_1.f g k a0_0 a0_1 = some r) :
  Calls Tryz.prog 35 #[.agg #[.int .i64 a0_0, .int .i64 a0_1], .pointer (some pc)] w fun e w' => e = .returned (.bool r) ∧ Below w.heap.size w w' := by
 obtain ⟨A, c, hx, hc, hC⟩ := hcap; have hB1 : Below w.heap.size w (w.alloc (Obj.cells #[Value.int IntKind.i64 a0_0, Value.int IntKind.i64 a0_1] 37)) := below_alloc (Below.refl _ _) _; have c2 : (w.alloc (Obj.cells #[Value.int IntKind.i64 a0_0, Value.int IntKind.i64 a0_1] 37)).cell? pc = some (.slice A g.length c) := (hB1.cell (World.block_lt_of_cell? w _ hx)).trans hx; have HR := ak (Kd.C_below hC hB1); have HC := ak hc; have HB0 := ak hB1; clear hC hc hx hB1
 unfold impl_CellsToStand_1.f at h
 by_cases d : a0_1 < 0
 ·rw [if_pos d] at h
  have db : decide (a0_1 < 0) = true := decide_eq_true d; obtain rfl := Option.some.inj h; clear d h
  go_enter Tryz.func35, Tryz.ntmps35
  go_wp2; go_ret; exact ⟨sq, HB0.out⟩
 ·rw [if_neg d] at h
  have db : decide (a0_1 < 0) = false := decide_eq_false d; clear d; obtain ⟨b, A1_, h⟩ := Option.bind_eq_some_iff.mp h; obtain ⟨s, A2_, h⟩ := Option.bind_eq_some_iff.mp h; obtain rfl := Option.some.inj h; have A1 := ak A1_; have A2 := ak A2_; clear A1_ A2_ h
  go_enter Tryz.func35, Tryz.ntmps35
  go_wp2_with (first | (go_at_call 36; refine (impl_withCell.calls k _ _ g a0_0 a0_1 b _ HR.out HC.out A1.out).mono ?_; rintro e w1 ⟨v1, rfl, ho, hb⟩; obtain ⟨B1, d1, rfl⟩ := Kd.R_slice ho; have HO1 := ak ho; have HB1 := ak (below_step HB0.out hb); clear ho hb) | (go_at_call 32; refine (impl_bodySide.calls k _ _ b s _ (Kd.R_reads' HO1.out).2.2 (Kd.R_reads' HO1.out).2.1 A2.out).mono ?_; rintro e w2 ⟨rfl, hd⟩; have HD2 := ak hd; clear hd))
  go_ret; exact ⟨sq, below_step HB1.out (by exact HD2.out)⟩
/-! ### slices_IndexFunc_CellsToStand_1: function 62 -/
def slices_IndexFunc_CellsToStand_1.l0 (g : List (S37)) : Nat → List (S37) → Int → Int → Option (Int)
 | 0, _, _, _ => none
 | k + 1, x0, x7, x8 => if x8 < x7 then (if 0 ≤ x8 then (if x8 < (x0.length : Int) then ((impl_CellsToStand_1.f g k ((rd_T37 x0 x8).f0) ((rd_T37 x0 x8).f1)).bind fun t456 => (if t456 = true then (some x8) else (slices_IndexFunc_CellsToStand_1.l0 g k x0 x7 (wrap64 (x8 + 1))))) else (none)) else (none)) else (some (-1))
def slices_IndexFunc_CellsToStand_1.f (g : List (S37)) (k : Nat) (l0 : List (S37)) : Option (Int) := slices_IndexFunc_CellsToStand_1.l0 g k l0 (l0.length : Int) 0
theorem slices_IndexFunc_CellsToStand_1.calls (g : List (S37)) (pc : Addr) (k : Nat) (A0 : Option Addr) (c0 : Nat) (l0 : List (S37)) (r : Int) (w : World) (hr0 : Kd.C k37 w A0 l0.length l0) (hc0 : l0.length ≤ c0) (hcap : CapR w pc g) (h : slices_IndexFunc_CellsToStand_1.f g k l0 = some r) :
  Calls Tryz.prog 62 #[.slice A0 l0.length c0, .func (.func 35) #[] #[.pointer (some pc)]] w fun e w' => e = .returned (.int .i64 r) ∧ Below w.heap.size w w' := by
 have hu37 := Tryz.underlying37; have HR0 := ak hr0; have HC0 := ak hc0; clear hr0 hc0; have HB := ak (Below.refl w.heap.size w); have H : (slices_IndexFunc_CellsToStand_1.l0 g k l0 (l0.length : Int) 0) = some r := h; clear h; have H' := ak H; clear H
 go_enter Tryz.func62, Tryz.ntmps62
 go_wp2
 go_loopg [8] k (fun kq v8 w' => ∃ (x8_1 : Int), v8 = .int .i64 x8_1 ∧ Aside0 (slices_IndexFunc_CellsToStand_1.l0 g kq l0 (l0.length : Int) x8_1 = some r) ∧ Aside0 (kq ≤ k) ∧ Aside0 (Below w.heap.size w w'))
 case atStart => exact ⟨(0), sq, H', ⟨Nat.le_refl _⟩, ⟨bq⟩⟩
 case round =>
  clear H'; obtain ⟨x8_1, rfl, HA, HK1, HB⟩ := hrel
  cases gk with
  | zero => exact absurd HA.out (by simp [slices_IndexFunc_CellsToStand_1.l0])
  | succ k1 =>
   have H := HA.out; clear HA; simp only [slices_IndexFunc_CellsToStand_1.l0] at H
   by_cases c2 : x8_1 < (l0.length : Int)
   ·rw [if_pos c2] at H
    have c2b0 := decide_eq_true c2; clear c2
    revert H; refine ig_ fun c3 H => ?_
    have c3b0 := decide_eq_true c3; clear c3
    revert H; refine ig_ fun c4 H => ?_
    have c4b0 := decide_eq_true c4; clear c4; obtain ⟨t456, A50, H⟩ := Option.bind_eq_some_iff.mp H
    have A5 := ak A50; clear A50
    by_cases c6 : t456 = true
    ·subst c6
     rw [if_pos rfl] at H; obtain rfl := Option.some.inj H; have p455 : 0 ≤ (x8_1 : Int) := dq; have q455 : x8_1 < (l0.length : Int) := dq; obtain ⟨ad455, e455, hx455_0, hx455_1⟩ := at_T37 HR0.out x8_1 p455 q455; cases e455; replace hx455_0 := hb_ HB hx455_0; replace hx455_1 := hb_ HB hx455_1; replace p455 := eq_true p455; replace q455 := eq_true q455
     go_wp2_with ((go_at_call 35; (with_reducible refine (impl_CellsToStand_1.calls g pc k1 ((rd_T37 l0 x8_1).f0) ((rd_T37 l0 x8_1).f1) true _ (by exact capr_at bq hcap) A5.out).mono ?_); rintro e w7 ⟨rfl, hb⟩; have n0_ := ak (below_step bq hb); clear HB; have HB := n0_; clear n0_; (try clear hb)))
     go_ret; exact ⟨eq_, bq⟩
    ·replace c6 := Bool.eq_false_iff.mpr c6
     subst c6; rw [if_neg (show ¬ (false = true) by decide)] at H; have H' := ak H; clear H; have p455 : 0 ≤ (x8_1 : Int) := dq; have q455 : x8_1 < (l0.length : Int) := dq; obtain ⟨ad455, e455, hx455_0, hx455_1⟩ := at_T37 HR0.out x8_1 p455 q455; cases e455; replace hx455_0 := hb_ HB hx455_0; replace hx455_1 := hb_ HB hx455_1; replace p455 := eq_true p455; replace q455 := eq_true q455
     go_wp2_with ((go_at_call 35; (with_reducible refine (impl_CellsToStand_1.calls g pc k1 ((rd_T37 l0 x8_1).f0) ((rd_T37 l0 x8_1).f1) false _ (by exact capr_at bq hcap) A5.out).mono ?_); rintro e w8 ⟨rfl, hb⟩; have n0_ := ak (below_step bq hb); clear HB; have HB := n0_; clear n0_; (try clear hb)))
     go_roundg k1
     case measure => have := HK1.out; omega
     case rel => exact ⟨(wrap64 (x8_1 + 1)), sq, H', ⟨by have := HK1.out; omega⟩, ⟨bq⟩⟩
   ·rw [if_neg c2] at H
    have c2b0 := decide_eq_false c2; clear c2; obtain rfl := Option.some.inj H; go_wp2; go_ret; exact ⟨eq_, bq⟩
/-! ### slices_DeleteFunc_CellsToStand_1: function 33, by hand -/
def slices_DeleteFunc_CellsToStand_1.l0 (g : List (S37)) : Nat → List (S37) → Int → Int → Option ((List (S37)))
 | 0, _, _, _ => none
 | k + 1, x0, x5, x6 => if x6 < (x0.length : Int) then (if 0 ≤ x6 then ((impl_CellsToStand_1.f g k ((rd_T37 x0 x6).f0) ((rd_T37 x0 x6).f1)).bind fun t344 => (if t344 = true then (slices_DeleteFunc_CellsToStand_1.l0 g k x0 x5 (wrap64 (x6 + 1))) else (if 0 ≤ x5 then (if x5 < (x0.length : Int) then (slices_DeleteFunc_CellsToStand_1.l0 g k (x0.set (x5 : Int).toNat (⟨(rd_T37 x0 x6).f0, (rd_T37 x0 x6).f1⟩ : S37)) (wrap64 (x5 + 1)) (wrap64 (x6 + 1))) else (none)) else (none)))) else (none)) else (if 0 ≤ x5 then (if x5 < (x0.length : Int) then (some (x0.take (x5 : Int).toNat)) else (none)) else (none))
def slices_DeleteFunc_CellsToStand_1.f (g : List (S37)) (k : Nat) (l0 : List (S37)) : Option ((List (S37))) := (slices_IndexFunc_CellsToStand_1.f g k l0).bind fun t341 => (if t341 = (-1) then (some l0) else (slices_DeleteFunc_CellsToStand_1.l0 g k l0 t341 (wrap64 (t341 + 1))))
theorem slices_DeleteFunc_CellsToStand_1.setCells_blk {g : Nat} {t : TypeId} : ∀ (vs : List Value) (o : Nat) {w : World} {cs : Array Value}, w.heap[g]? = some (.cells cs t (0, 0)) → ∃ cs', (w.setCells g o vs).heap[g]? = some (.cells cs' t (0, 0)) ∧ cs'.size = cs.size ∧ (∀ i, i < o → cs'[i]? = cs[i]?) ∧ w.grownBy (w.setCells g o vs) (some g) := by
 intro vs
 induction vs with
 | nil => intro o w cs h; exact ⟨cs, h, rfl, fun _ _ => rfl, ⟨rfl, rfl, rfl, Nat.le_refl _, fun _ _ _ => rfl⟩⟩
 | cons v r ih =>
  intro o w cs h; have h1 := blk_set h o v; obtain ⟨cs', e1, e2, e3, e4⟩ := ih (o + 1) h1; refine ⟨cs', e1, by rw [e2]; simp, fun i hi => ?_, ?_⟩
  ·rw [e3 i (by omega), Array.getElem?_setIfInBounds_ne (by omega)]
  ·have g1 : w.grownBy (w.setCell ⟨g, o, none⟩ v) (some g) := ⟨(Below.setCell (Below.refl 0 w) (Nat.zero_le _) v).os, (Below.setCell (Below.refl 0 w) (Nat.zero_le _) v).tape, (Below.setCell (Below.refl 0 w) (Nat.zero_le _) v).output, by simp, fun k hk hne => Below.heap_setCell w ⟨g, o, none⟩ v k (fun e => hne (by rw [e]))⟩
   exact World.grownBy.trans g1 e4
/-- The cells behind a row's elements are set to zero: the row stays. -/
theorem slices_DeleteFunc_CellsToStand_1.R_clear {α : Type} (d : Kd α) {W : World} {base e g n c m c2 : Nat} {xs : List α} {ok : Nat → Prop} (t : TypeId) (z : Value) (ht : Tryz.prog.underlying t = some (.slice e)) (hv : ∀ w, (zeroValue e).run Tryz.prog w = .ok z w) (hzs : z.cells.size = d.sz) (h1 : ∀ u ∈ z.cells, u.oneCell' = true) (hd0 : 0 < d.sz) (hM : ∀ (W W' : World) (base : Nat) (ok : Nat → Prop) p c, d.M W base ok p c → d.M W' base ok p c)
  (HO : d.R e W base ok (.slice (some ⟨g, 0, none⟩) n c) xs) (hm : n + m ≤ c) (hm0 : 0 < m) :
  ∃ w1, (∀ ty, (Builtin.clear_ #[t] ty #[.slice (some ⟨g, n * d.sz, none⟩) m c2]).run Tryz.prog W = .ok (.tuple #[]) w1) ∧ d.R e w1 base ok (.slice (some ⟨g, 0, none⟩) n c) xs ∧ W.grownBy w1 (some g) := by
 obtain ⟨hok, inner, ⟨ho1, ho2⟩, hr⟩ := HO
 rcases ho2 with ⟨hv', _⟩ | ⟨g', cap', cur, hv', hb, hh, h2, hcm, hcs, htake⟩
 ·cases hv'
 injection hv' with ha hn hc
 injection ha with ha
 injection ha with hg
 subst hg; subst hc; subst hn
 have hzl : (Builtin.zeroCells z.cells m).toList.length = m * d.sz := by simp [Builtin.zeroCells, hzs]
 obtain ⟨cs', e1, e2, e3, e4⟩ := slices_DeleteFunc_CellsToStand_1.setCells_blk (Builtin.zeroCells z.cells m).toList (xs.length * d.sz) hh; have hmul : (xs.length + m) * d.sz ≤ c * d.sz := Nat.mul_le_mul_right _ hm; rw [Nat.add_mul] at hmul
 have hcell : ∀ j, j < m * d.sz → (W.cell? ⟨g, xs.length * d.sz + 0 + j, none⟩).isSome = true := by
  intro j hj; rw [blk_cell hh, Array.getElem?_eq_getElem (by rw [hcs]; omega)]; rfl
 refine ⟨W.setCells g (xs.length * d.sz) (Builtin.zeroCells z.cells m).toList, fun ty => ?_, ⟨hok, inner, ⟨ho1, Or.inr ⟨g, c, cs', rfl, hb, e1, h2, hcm, by rw [e2]; exact hcs, ?_⟩⟩, hr.imp_ (fun p c hp => hM _ _ _ _ _ _ hp)⟩, e4⟩
 ·have hst := run_storeCells_cells (P := Tryz.prog) g (xs.length * d.sz) (Builtin.zeroCells z.cells m).toList 0 W (by rw [hzl]; exact hcell) (by intro j _; exact blk_frozen hh _) (by
   intro v hv2; simp only [Builtin.zeroCells, Array.toList_map, List.mem_map] at hv2; obtain ⟨i, hi, rfl⟩ := hv2; have hlt : i % z.cells.size < z.cells.size := Nat.mod_lt _ (by omega); rw [getElem!_pos z.cells _ hlt]
   exact h1 _ (Array.getElem_mem hlt))
  simp only [Nat.add_zero] at hst; obtain ⟨m', rfl⟩ : ∃ m', m = m' + 1 := ⟨m - 1, by omega⟩
  simp [Builtin.clear_, run_underlying ht, hv, hst]
 ·rw [← htake]
  apply List.ext_getElem?
  intro i
  by_cases hi : i < xs.length * d.sz
  ·rw [List.getElem?_take_of_lt hi, List.getElem?_take_of_lt hi, Array.getElem?_toList, Array.getElem?_toList, e3 i hi]
  ·rw [List.getElem?_take_eq_none (by omega), List.getElem?_take_eq_none (by omega)]
theorem slices_DeleteFunc_CellsToStand_1.M (W W' : World) (base : Nat) (ok : Nat → Prop) (p : S37) (c : List Value) (h : k37.M W base ok p c) : k37.M W' base ok p c := by
 have e := k37_openM h; rw [e]; exact k37_mkM _ _ _ p
theorem slices_DeleteFunc_CellsToStand_1.zero (w : World) : (zeroValue 37).run Tryz.prog w = .ok (.agg #[.int .i64 0, .int .i64 0]) w := by kernel_rfl
theorem slices_DeleteFunc_CellsToStand_1.calls (g : List (S37)) (pc : Addr) (k : Nat) (P0_ : Nat → Prop) (u9000_ : Value) (l0 : List (S37)) (r : List (S37)) (w0 w : World) (hB : Below w0.heap.size w0 w) (ho0 : Kd.R k37 37 w w0.heap.size P0_ u9000_ l0) (hcap : CapR w0 pc g) (h : slices_DeleteFunc_CellsToStand_1.f g k l0 = some r) :
  Calls Tryz.prog 33 #[u9000_, .func (.func 35) #[] #[.pointer (some pc)]] w fun e w' => ∃ v0_ : Value, e = .returned (v0_) ∧ Kd.R k37 37 w' w0.heap.size (fun k_ => (P0_ k_ ∨ w.heap.size ≤ k_)) v0_ r ∧ Below w0.heap.size w0 w' ∧ Kept w w' (fun k_ => P0_ k_) := by
 have hu49 := Tryz.underlying37; have HO0 := ak (show Kd.R k37 37 w w0.heap.size (fun k_ => (P0_ k_ ∨ w.heap.size ≤ k_)) u9000_ l0 from Kd.R_mono ho0 (fun k_ hk => (.inl hk))); have HK := ak (Kept.refl w (fun k_ => P0_ k_)); have HW0 := ak hB.size; have HB := ak hB; clear hB; have H : ((slices_IndexFunc_CellsToStand_1.f g k l0).bind fun t341 => (if t341 = (-1) then (some l0) else (slices_DeleteFunc_CellsToStand_1.l0 g k l0 t341 (wrap64 (t341 + 1))))) = some r := h; clear h; obtain ⟨t341, A20, H⟩ := Option.bind_eq_some_iff.mp H
 have A2 := ak A20; clear A20
 by_cases c3 : t341 = (-1)
 ·rw [if_pos c3] at H
  have c3b0 : (t341 == (-1)) = true := beq_iff_eq.mpr c3; have c3b1 : (t341 != (-1)) = false := bne_eq_false_iff_eq.mpr c3; clear c3; obtain rfl := Option.some.inj H; obtain ⟨Ao4, co4, eo4⟩ := Kd.R_slice HO0.out; subst eo4
  go_enter Tryz.func33, Tryz.ntmps33
  go_wp2_with (((with_reducible refine gate_callee (f := 62) rfl ?_); refine goesL_ (some 10) rfl rfl Tryz.func62 (by kernel_rfl) rfl #[.slice Ao4 l0.length co4, .func (.func 35) #[] #[.pointer (some pc)]] rfl aq ?_; (with_reducible refine (slices_IndexFunc_CellsToStand_1.calls g pc k _ _ l0 t341 _ ?side1 ?side2 (by exact capr_at bs hcap) A2.out).mono ?_); (case side1 => exact cq (Kd.R_reads' HO0.out).2.2); (case side2 => exact (Kd.R_reads' HO0.out).2.1); rintro e w5 ⟨rfl, hb⟩; refine ⟨_, rfl, ?_⟩; have n0_ := ak (Kd.R_below (rq HO0) hb); have n1_ := ak (Kept.below (S := (fun k_ => P0_ k_)) kq hb); have n2_ := ak (below_step bq hb); clear HO0; clear HK; clear HB; have HO0 := n0_; have HK := n1_; have HB := n2_; clear n0_ n1_ n2_; (try clear hb)))
  go_ret; exact ⟨_, eq_, rq HO0, bq, kq⟩
 ·rw [if_neg c3] at H
  have c3b0 : (t341 == (-1)) = false := beq_eq_false_iff_ne.mpr c3; have c3b1 : (t341 != (-1)) = true := bne_iff_ne.mpr c3; have H' := ak H; clear H; obtain ⟨Ao6, co6, eo6⟩ := Kd.R_slice HO0.out; subst eo6
  go_enter Tryz.func33, Tryz.ntmps33
  go_wp2_with (((with_reducible refine gate_callee (f := 62) rfl ?_); refine goesL_ (some 10) rfl rfl Tryz.func62 (by kernel_rfl) rfl #[.slice Ao6 l0.length co6, .func (.func 35) #[] #[.pointer (some pc)]] rfl aq ?_; (with_reducible refine (slices_IndexFunc_CellsToStand_1.calls g pc k _ _ l0 t341 _ ?side1 ?side2 (by exact capr_at bs hcap) A2.out).mono ?_); (case side1 => exact cq (Kd.R_reads' HO0.out).2.2); (case side2 => exact (Kd.R_reads' HO0.out).2.1); rintro e w7 ⟨rfl, hb⟩; refine ⟨_, rfl, ?_⟩; have n0_ := ak (Kd.R_below (rq HO0) hb); have n1_ := ak (Kept.below (S := (fun k_ => P0_ k_)) kq hb); have n2_ := ak (below_step bq hb); clear HO0; clear HK; clear HB; have HO0 := n0_; have HK := n1_; have HB := n2_; clear n0_ n1_ n2_; (try clear hb)))
  go_loopg [5, 6] k (fun kq v5 v6 w' => ∃ (x0_1 : List (S37)) (x5_1 : Int) (x6_1 : Int), v5 = .int .i64 x5_1 ∧ v6 = .int .i64 x6_1 ∧ Aside0 (slices_DeleteFunc_CellsToStand_1.l0 g kq x0_1 x5_1 x6_1 = some r) ∧ Aside0 (kq ≤ k) ∧ Aside0 (Kd.R k37 37 w' w0.heap.size (fun k_ => (P0_ k_ ∨ w.heap.size ≤ k_)) (.slice Ao6 l0.length co6) x0_1) ∧ Aside0 (Kept w w' (fun k_ => P0_ k_)) ∧ Aside0 (Below w0.heap.size w0 w'))
  case atStart => exact ⟨(l0), (t341), (wrap64 (t341 + 1)), sq, sq, H', ⟨Nat.le_refl _⟩, ⟨rq HO0⟩, ⟨kq⟩, ⟨bq⟩⟩
  case round =>
   clear H'; (try clear c3); (try clear c3b0); (try clear c3b1); obtain ⟨x0_1, x5_1, x6_1, rfl, rfl, HA, HK1, HO_0, HK, HB⟩ := hrel; have hl0_1 := (Kd.R_reads' HO_0.out).1; rw [hl0_1] at HO_0
   (try simp only [hl0_1])
   cases gk with
   | zero => exact absurd HA.out (by simp [slices_DeleteFunc_CellsToStand_1.l0])
   | succ k1 =>
    have H := HA.out; clear HA; simp only [slices_DeleteFunc_CellsToStand_1.l0] at H
    by_cases c8 : x6_1 < (x0_1.length : Int)
    ·rw [if_pos c8] at H
     have c8b0 := decide_eq_true c8; clear c8
     revert H; refine ig_ fun c9 H => ?_
     have c9b0 := decide_eq_true c9; clear c9; obtain ⟨t344, A100, H⟩ := Option.bind_eq_some_iff.mp H
     have A10 := ak A100; clear A100
     by_cases c11 : t344 = true
     ·subst c11
      rw [if_pos rfl] at H; have H' := ak H; clear H; have p342 : 0 ≤ (x6_1 : Int) := dq; have q342 : x6_1 < (x0_1.length : Int) := dq; obtain ⟨ad342, e342, hx342_0, hx342_1⟩ := at_T37 (Kd.R_reads' HO_0.out).2.2 x6_1 p342 q342; cases e342; replace p342 := eq_true p342; replace q342 := eq_true q342
      go_wp2_with (first | ((with_reducible refine gate_dst (N := 7) rfl ?_); refine box_event ?hg (N := 7) ?hd (cs := #[.int .i64 0, .int .i64 0]) (t := 37) ?hr ?_; (case hd => rfl); (case hg => rfl); (case hr => (go_simp; done)); intro gb343 hg w12 hbox hb; have n0_ := ak (Kd.R_below (Kd.R_elderB (rq HO_0) gb343 (Nat.le_of_eq hg.symm)) hb); have n1_ := ak (Kept.below (S := (fun k_ => P0_ k_)) kq hb); have n2_ := ak (below_step bq hb); have n3_ := ak (hbox); have n4_ := ak ((by rw [hg]; exact (by exact HK.out.1) : w.heap.size ≤ gb343)); have n5_ := ak ((by rw [hg]; exact (below_size bq) : w0.heap.size ≤ gb343)); clear HO_0; clear HK; clear HB; have HO_0 := n0_; have HK := n1_; have HB := n2_; have BK343 := n3_; have GW343 := n4_; have GE343 := n5_; clear n0_ n1_ n2_ n3_ n4_ n5_; clear hb hbox hg; have hcz13_0 : w12.cell? ⟨gb343, 0, none⟩ = some (.int .i64 0) := (blk_cell BK343.out 0).trans rfl; have hcz13_1 : w12.cell? ⟨gb343, 1, none⟩ = some (.int .i64 0) := (blk_cell BK343.out 1).trans rfl; have hfz13_0 := blk_frozen BK343.out 0; have hfz13_1 := blk_frozen BK343.out 1) | (go_at_call 35; (with_reducible refine (impl_CellsToStand_1.calls g pc k1 ((rd_T37 x0_1 x6_1).f0) ((rd_T37 x0_1 x6_1).f1) true _ (by exact capr_at bs hcap) A10.out).mono ?_); rintro e w14 ⟨rfl, hb⟩; have n0_ := ak (Kd.R_below (by exact (Kd.R_mono (Kd.R_far (p := ⟨gb343, 1, none⟩) (Kd.R_far (p := ⟨gb343, 0, none⟩) (Kd.R_mono HO_0.out (fun k_ hk => (⟨hk, hk.2⟩ : _ ∧ k_ ≠ gb343))) (fun _ hk => hk.2) (.int .i64 ((rd_T37 x0_1 x6_1).f0))) (fun _ hk => hk.2) (.int .i64 ((rd_T37 x0_1 x6_1).f1))) (fun _ h_ => h_.1))) hb); have n1_ := ak (blk_below (g := gb343) (o := .cells #[.int .i64 ((rd_T37 x0_1 x6_1).f0), .int .i64 ((rd_T37 x0_1 x6_1).f1)] 37 (0, 0)) (by refine blk_put (cs := #[.int .i64 ((rd_T37 x0_1 x6_1).f0), .int .i64 0]) ?_ 1 _ rfl; refine blk_put (cs := #[.int .i64 0, .int .i64 0]) ?_ 0 _ rfl; exact BK343.out) hb); have n2_ := ak (Kept.below (S := (fun k_ => P0_ k_)) (by repeat ((with_reducible first | exact HK.out | refine Kept.setCell ?_ (.inr GW343.out) _))) hb); have n3_ := ak (below_step bs hb); clear HO_0; clear BK343; clear HK; clear HB; have HO_0 := n0_; have BK343 := n1_; have HK := n2_; have HB := n3_; clear n0_ n1_ n2_ n3_; (try clear hb)))
      (try simp only [← hl0_1])
      go_roundg k1
      case measure => have := HK1.out; omega
      case rel => exact ⟨(x0_1), (x5_1), (wrap64 (x6_1 + 1)), sq, sq, H', ⟨by have := HK1.out; omega⟩, ⟨by (try simp only [hl0_1]); exact Kd.R_mono HO_0.out (fun _ hk => hk.1)⟩, ⟨by repeat ((with_reducible exact HK.out))⟩, ⟨bs⟩⟩
     ·replace c11 := Bool.eq_false_iff.mpr c11
      subst c11; rw [if_neg (show ¬ (false = true) by decide)] at H
      revert H; refine ig_ fun c15 H => ?_
      have c15b0 := decide_eq_true c15; clear c15
      revert H; refine ig_ fun c16 H => ?_
      have c16b0 := decide_eq_true c16; clear c16; obtain ⟨y345, hy345⟩ : ∃ y_ : List (S37), y_ = (x0_1.set (x5_1 : Int).toNat (⟨(rd_T37 x0_1 x6_1).f0, (rd_T37 x0_1 x6_1).f1⟩ : S37)) := ⟨_, rfl⟩
      replace H : (slices_DeleteFunc_CellsToStand_1.l0 g k1 y345 (wrap64 (x5_1 + 1)) (wrap64 (x6_1 + 1))) = some r := by first | (rw [hy345]; with_reducible exact H) | (have H2_ := (Option.bind_some _ _).symm.trans H; rw [hy345]; with_reducible exact H2_) | (have H2_ := (Option.bind_some _ _).symm.trans H; with_reducible exact H2_) | with_reducible exact H | (rw [hy345]; exact H) | exact H
      have Ny345 := ak hy345; clear hy345; have H' := ak H; clear H; have p342 : 0 ≤ (x6_1 : Int) := dq; have q342 : x6_1 < (x0_1.length : Int) := dq; obtain ⟨ad342, e342, hx342_0, hx342_1⟩ := at_T37 (Kd.R_reads' HO_0.out).2.2 x6_1 p342 q342; cases e342; replace p342 := eq_true p342; replace q342 := eq_true q342
      go_wp2_with (first | ((with_reducible refine gate_dst (N := 7) rfl ?_); refine box_event ?hg (N := 7) ?hd (cs := #[.int .i64 0, .int .i64 0]) (t := 37) ?hr ?_; (case hd => rfl); (case hg => rfl); (case hr => (go_simp; done)); intro gb343 hg w18 hbox hb; have n0_ := ak (Kd.R_below (Kd.R_elderB (rq HO_0) gb343 (Nat.le_of_eq hg.symm)) hb); have n1_ := ak (Kept.below (S := (fun k_ => P0_ k_)) kq hb); have n2_ := ak (below_step bq hb); have n3_ := ak (hbox); have n4_ := ak ((by rw [hg]; exact (by exact HK.out.1) : w.heap.size ≤ gb343)); have n5_ := ak ((by rw [hg]; exact (below_size bq) : w0.heap.size ≤ gb343)); clear HO_0; clear HK; clear HB; have HO_0 := n0_; have HK := n1_; have HB := n2_; have BK343 := n3_; have GW343 := n4_; have GE343 := n5_; clear n0_ n1_ n2_ n3_ n4_ n5_; clear hb hbox hg; have hcz19_0 : w18.cell? ⟨gb343, 0, none⟩ = some (.int .i64 0) := (blk_cell BK343.out 0).trans rfl; have hcz19_1 : w18.cell? ⟨gb343, 1, none⟩ = some (.int .i64 0) := (blk_cell BK343.out 1).trans rfl; have hfz19_0 := blk_frozen BK343.out 0; have hfz19_1 := blk_frozen BK343.out 1) | (go_at_call 35; (with_reducible refine (impl_CellsToStand_1.calls g pc k1 ((rd_T37 x0_1 x6_1).f0) ((rd_T37 x0_1 x6_1).f1) false _ (by exact capr_at bs hcap) A10.out).mono ?_); rintro e w20 ⟨rfl, hb⟩; have n0_ := ak (Kd.R_below (by exact (Kd.R_mono (Kd.R_far (p := ⟨gb343, 1, none⟩) (Kd.R_far (p := ⟨gb343, 0, none⟩) (Kd.R_mono HO_0.out (fun k_ hk => (⟨hk, hk.2⟩ : _ ∧ k_ ≠ gb343))) (fun _ hk => hk.2) (.int .i64 ((rd_T37 x0_1 x6_1).f0))) (fun _ hk => hk.2) (.int .i64 ((rd_T37 x0_1 x6_1).f1))) (fun _ h_ => h_.1))) hb); have n1_ := ak (blk_below (g := gb343) (o := .cells #[.int .i64 ((rd_T37 x0_1 x6_1).f0), .int .i64 ((rd_T37 x0_1 x6_1).f1)] 37 (0, 0)) (by refine blk_put (cs := #[.int .i64 ((rd_T37 x0_1 x6_1).f0), .int .i64 0]) ?_ 1 _ rfl; refine blk_put (cs := #[.int .i64 0, .int .i64 0]) ?_ 0 _ rfl; exact BK343.out) hb); have n2_ := ak (Kept.below (S := (fun k_ => P0_ k_)) (by repeat ((with_reducible first | exact HK.out | refine Kept.setCell ?_ (.inr GW343.out) _))) hb); have n3_ := ak (below_step bs hb); clear HO_0; clear BK343; clear HK; clear HB; have HO_0 := n0_; have BK343 := n1_; have HK := n2_; have HB := n3_; clear n0_ n1_ n2_ n3_; (try clear hb); have hcz21_0 : w20.cell? ⟨gb343, 0, none⟩ = some (.int .i64 ((rd_T37 x0_1 x6_1).f0)) := (blk_cell BK343.out 0).trans rfl; have hcz21_1 : w20.cell? ⟨gb343, 1, none⟩ = some (.int .i64 ((rd_T37 x0_1 x6_1).f1)) := (blk_cell BK343.out 1).trans rfl; have hfz21_0 := blk_frozen BK343.out 0; have hfz21_1 := blk_frozen BK343.out 1; have p17 : 0 ≤ (x5_1 : Int) := dq; have q17 : (x5_1 : Int) < ((x0_1.length : Int) : Int) := dq; obtain ⟨go17, co17, eo17, gb17, gl17, cl17, HG17⟩ := Kd.R_form HO_0.out (by omega); (first | cases eo17 | (injection eo17 with ea_ en_ ec_; (fail); subst ec_; clear en_)); have GB17 := ak gb17; have GG17 := ak HG17; clear gb17 gl17 HG17; have HMgo17 := ak (show (P0_ go17 ∨ w.heap.size ≤ go17) from (HO_0.out.1 _ rfl).1); (simp only [add_plain] at hx342_0); (simp only [add_plain] at hx342_1); obtain ⟨ce17, hcl17, hM17, hcc17, hfr17⟩ := Kd.R_elem HO_0.out z37 (x5_1 : Int) p17 q17; obtain rfl := k37_openM hM17; have hx17_0 : w20.cell? ⟨go17, (x5_1 : Int).toNat * 2, none⟩ = some (.int .i64 ((rd_T37 x0_1 x5_1).f0)) := hcc17 0 _ rfl; have hx17_1 : w20.cell? ⟨go17, (x5_1 : Int).toNat * 2 + 1, none⟩ = some (.int .i64 ((rd_T37 x0_1 x5_1).f1)) := hcc17 1 _ rfl; have hf17_0 : w20.frozen? ⟨go17, (x5_1 : Int).toNat * 2, none⟩ = false := hfr17 0; have hf17_1 : w20.frozen? ⟨go17, (x5_1 : Int).toNat * 2 + 1, none⟩ = false := hfr17 1; clear hcl17 hcc17 hfr17 hM17; replace p17 := eq_true p17; replace q17 := eq_true q17; have HX22 := ak (show Kd.R k37 37 w20 w0.heap.size (fun k_ => (P0_ k_ ∨ w.heap.size ≤ k_) ∧ k_ ≠ gb343) (.slice (some ⟨go17, 0, none⟩) x0_1.length co6) x0_1 from (rq HO_0)); obtain ⟨ce22, hcl22, hM22, hcc22, hfr22⟩ := Kd.R_elem HX22.out z37 (x5_1 : Int) (dq) (by have h_ : (x5_1 : Int) < ((x0_1.length : Int) : Int) := dq; exact h_); obtain rfl := k37_openM hM22; have HP22 := Kd.R_seg HX22.out (x5_1 : Int) (dq) (by have h_ : (x5_1 : Int) < ((x0_1.length : Int) : Int) := dq; exact h_) (seg := [.int .i64 ((rd_T37 x0_1 x6_1).f0), .int .i64 ((rd_T37 x0_1 x6_1).f1)]) (j := 0) hcl22 hcc22 (show 2 ≤ 2 from by decide) (x' := (⟨(rd_T37 x0_1 x6_1).f0, (rd_T37 x0_1 x6_1).f1⟩ : S37)) (k37_mkM _ _ _ (⟨(rd_T37 x0_1 x6_1).f0, (rd_T37 x0_1 x6_1).f1⟩ : S37) ) (fun _ hk => hk); have hx22_0 := hcc22 0 _ rfl; have hf22_0 := hfr22 0; have hx22_1 := hcc22 1 _ rfl; have hf22_1 := hfr22 1; clear hcl22 hcc22 hfr22 hM22) | ((with_reducible refine gate_store (t := 37) (p := 33) rfl ?_); refine store_event (t := 37) (p := 33) (v := ?vo_w23) (w1 := ((w20.setCell ⟨go17, (x5_1 : Int).toNat * 2, none⟩ (.int .i64 ((rd_T37 x0_1 x6_1).f0))).setCell ⟨go17, (x5_1 : Int).toNat * 2 + 1, none⟩ (.int .i64 ((rd_T37 x0_1 x6_1).f1)))) ?hg ?ho ?hn ?hr ?_; (case ho => rfl); (case hg => rfl); (case hn => rfl); (case hr => (go_simp; done)); intro w23 hw; have hg : w20.grownBy w23 (some go17) := (by rw [hw]; exact HP22.2); have hp_ : Kd.R k37 37 w23 w0.heap.size (fun k_ => (P0_ k_ ∨ w.heap.size ≤ k_) ∧ k_ ≠ gb343) (.slice (some ⟨go17, 0, none⟩) x0_1.length co6) y345 := (by rw [hw, Ny345.out]; exact HP22.1); clear HP22; have n0_ := ak (hp_); have n1_ := ak (blk_grown (g := gb343) (o := .cells #[.int .i64 ((rd_T37 x0_1 x6_1).f0), .int .i64 ((rd_T37 x0_1 x6_1).f1)] 37 (0, 0)) (uq BK343) hg (Kd.R_away HO_0.out (fun _ hk => hk.2))); have n2_ := ak ((by rw [hw]; exact below_set (below_set (HB.out) GB17.out) GB17.out : Below w0.heap.size w0 w23)); have n3_ := ak (Kept.of_grown (S := (fun k_ => P0_ k_)) hg (by repeat ((with_reducible exact HK.out))) (fun k_ e_ => (HO_0.out.1 k_ e_).1)); clear HO_0; clear BK343; clear HB; clear HK; have HO_0 := n0_; have BK343 := n1_; have HB := n2_; have HK := n3_; clear n0_ n1_ n2_ n3_; clear hg hw hp_))
      (try simp only [← hl0_1])
      go_roundg k1
      case measure => have := HK1.out; omega
      case rel => exact ⟨(y345), (wrap64 (x5_1 + 1)), (wrap64 (x6_1 + 1)), sq, sq, H', ⟨by have := HK1.out; omega⟩, ⟨by (try simp only [hl0_1]); exact Kd.R_mono HO_0.out (fun _ hk => hk.1)⟩, ⟨by repeat ((with_reducible exact HK.out))⟩, ⟨bs⟩⟩
    ·rw [if_neg c8] at H
     have c8b0 := decide_eq_false c8; clear c8
     revert H; refine ig_ fun c19 H => ?_
     revert H; refine ig_ fun c20 H => ?_
     obtain ⟨i, rfl⟩ := Int.eq_ofNat_of_zero_le c19
     have hi : i < x0_1.length := by omega
     rw [Int.toNat_natCast] at H; obtain rfl := Option.some.inj H; clear H; obtain ⟨go, cap, e_, gb, gl, cl, HG⟩ := Kd.R_form HO_0.out (by omega)
     obtain ⟨e1, e2, e3⟩ : Ao6 = some ⟨go, 0, none⟩ ∧ x0_1.length = x0_1.length ∧ co6 = cap := by injection e_ with a_ b_ c_; exact ⟨a_, rfl, c_⟩
     subst e1; subst e3; have hroom := (Kd.R_reads' HO_0.out).2.1; obtain ⟨i022, hi022, _, hsz22, _⟩ := info_parts info37; have hcut22 := cut_from (P := Tryz.prog) 24 37 .i64 Tryz.underlying24 hi022 2 hsz22 (some ⟨go, 0, none⟩) x0_1.length co6 (i : Int) (by omega) (by omega); have hcut23 := cut_to (P := Tryz.prog) 24 37 .i64 Tryz.underlying24 hi022 (some ⟨go, 0, none⟩) x0_1.length co6 (i : Int) (by omega) (by omega) hroom; have hr23 := Kd.R_take (m := i) HO_0.out (by omega); obtain ⟨w2, hclr, ho2, hg2⟩ := slices_DeleteFunc_CellsToStand_1.R_clear k37 (n := i) (c2 := co6 - i) 24 (.agg #[.int .i64 0, .int .i64 0]) Tryz.underlying24 slices_DeleteFunc_CellsToStand_1.zero rfl (by intro u hu; simp [Value.cells] at hu; (subst hu; rfl)) (by decide) slices_DeleteFunc_CellsToStand_1.M hr23 (m := x0_1.length - i) (by omega) (by omega)
     have hne : ¬ co6 = i := by omega
     have hle : (i : Int) ≤ (x0_1.length : Int) := by omega
     rw [Int.toNat_natCast, if_neg hne] at hcut22; rw [Int.toNat_natCast] at hcut23
     have eo : (some (⟨go, 0, none⟩ : Addr)).map (·.add (i * 2)) = some ⟨go, i * 2, none⟩ := by rw [Option.map_some, add_plain]
     rw [eo] at hcut22; have hszk : Kd.sz k37 = 2 := rfl; rw [hszk] at hclr; have HO2 := ak ho2; have HB2 := ak (HB.out.grown hg2 HB.out.size (fun k hk => by injection hk with hk; subst hk; exact gb)); have HK2 := ak (Kept.of_grown (S := (fun k_ => P0_ k_)) hg2 HK.out (fun k_ e_ => HO_0.out.1 k_ (by rw [← e_]; rfl))); clear ho2 hr23 hi022 hsz22 hg2 HO_0 HB HK HG gb gl; replace c19 := eq_true c19; replace c20 := eq_true c20; replace hle := eq_true hle; go_wp2; go_ret
     have hlen : (x0_1.take i).length = i := by rw [List.length_take]; omega
     exact ⟨_, rfl, HO2.out, HB2.out, HK2.out⟩
/-! ### impl_CellsToStand: function 13, by hand -/
-- needs 8 34 35 33
/-- The cells with one of which more the body stands. -/
def impl_CellsToStand.f (k : Nat) (l0 : List (S37)) : Option (List (S37) × Bool) :=
 (impl_IsBody.f k l0).bind fun t => if t = true then (if (l0.length : Int) = 12 then some ([], false) else ((impl_besides.f k l0).bind fun b => (slices_DeleteFunc_CellsToStand_1.f l0 k b).bind fun s => some (s, true))) else some ([], false)
theorem below_cell_ {w W : World} {p : Addr} {v : Value} (h : w.cell? p = some v) (hb : Below w.heap.size w W) : W.cell? p = some v := (hb.cell (World.block_lt_of_cell? w _ h)).trans h
theorem impl_CellsToStand.calls (k : Nat) (A0 : Option Addr) (c0 : Nat) (l0 : List (S37)) (r1 : List (S37)) (r2 : Bool) (w : World) (hr0 : Kd.C k37 w A0 l0.length l0) (hc0 : l0.length ≤ c0) (h : impl_CellsToStand.f k l0 = some (r1, r2)) :
  Calls Tryz.prog 13 #[.slice A0 l0.length c0] w fun e w' => ∃ v0_ : Value, e = .returned (.tuple #[v0_, .bool r2]) ∧ Kd.R k37 37 w' w.heap.size (fun _ => True) v0_ r1 ∧ Below w.heap.size w w' := by
 have HR0 := ak hr0; have HC0 := ak hc0; clear hr0 hc0; have HB := ak (Below.refl w.heap.size w); obtain ⟨ok, A1_, H⟩ := Option.bind_eq_some_iff.mp h; clear h; have Q1 := ak A1_; clear A1_
 cases ok with
 | false =>
  have H' := ak H; clear H
  go_enter Tryz.func13, Tryz.ntmps13
  go_wp2_with (first | ((with_reducible refine gate_dst (N := 1) rfl ?_); refine box_event ?hg (N := 1) ?hd (cs := #[.slice A0 l0.length c0]) (t := 24) ?hr ?_; (case hd => rfl); (case hg => rfl); (case hr => (go_simp; done)); intro g5_ hg w5 hbox hb; have n0_ := ak (below_step bq hb); have cz5 : w5.cell? ⟨g5_, 0, none⟩ = some (.slice A0 l0.length c0) := (blk_cell hbox 0).trans rfl; clear HB; have HB := n0_; clear n0_ hb hg; have HR5 := ak (Kd.C_below HR0.out HB.out); have HCAP := ak (show CapR w5 ⟨g5_, 0, none⟩ l0 from ⟨A0, c0, cz5, HC0.out, HR5.out⟩); have HB1 := ak (Below.refl w5.heap.size w5); have cf5 := blk_frozen hbox 0; clear hbox) | (go_at_call 8; refine (impl_IsBody.calls k A0 c0 l0 false _ (Kd.C_below HR5.out bq) HC0.out Q1.out).mono ?_; rintro e w11 ⟨rfl, hb⟩; have n0_ := ak (below_step bq (by exact hb)); have n1_ := (below_cell_ cz5 n0_.out); clear HB1; have HB1 := n0_; clear n0_ hb))
  go_ret2
  obtain ⟨rfl, rfl⟩ : ([] : List (S37)) = r1 ∧ false = r2 := by have := H'.out; simpa using this
  exact ⟨_, by first | rfl | (simp <;> rfl), Kd.R_nil _ _ _ _ _, below_step HB.out bq⟩
 | true =>
  replace H : (if (l0.length : Int) = 12 then some ([], false) else ((impl_besides.f k l0).bind fun b => (slices_DeleteFunc_CellsToStand_1.f l0 k b).bind fun s => some (s, true))) = some (r1, r2) := H
  by_cases d : (l0.length : Int) = 12
  ·rw [if_pos d] at H
   have db : ((l0.length : Int) == 12) = true := beq_iff_eq.2 d; have db2 : (l0.length == 12) = true := beq_iff_eq.2 (by omega); have H' := ak H; clear H d
   go_enter Tryz.func13, Tryz.ntmps13
   go_wp2_with (first | ((with_reducible refine gate_dst (N := 1) rfl ?_); refine box_event ?hg (N := 1) ?hd (cs := #[.slice A0 l0.length c0]) (t := 24) ?hr ?_; (case hd => rfl); (case hg => rfl); (case hr => (go_simp; done)); intro g5_ hg w5 hbox hb; have n0_ := ak (below_step bq hb); have cz5 : w5.cell? ⟨g5_, 0, none⟩ = some (.slice A0 l0.length c0) := (blk_cell hbox 0).trans rfl; clear HB; have HB := n0_; clear n0_ hb hg; have HR5 := ak (Kd.C_below HR0.out HB.out); have HCAP := ak (show CapR w5 ⟨g5_, 0, none⟩ l0 from ⟨A0, c0, cz5, HC0.out, HR5.out⟩); have HB1 := ak (Below.refl w5.heap.size w5); have cf5 := blk_frozen hbox 0; clear hbox) | (go_at_call 8; refine (impl_IsBody.calls k A0 c0 l0 true _ (Kd.C_below HR5.out bq) HC0.out Q1.out).mono ?_; rintro e w11 ⟨rfl, hb⟩; have n0_ := ak (below_step bq (by exact hb)); have n1_ := (below_cell_ cz5 n0_.out); clear HB1; have HB1 := n0_; clear n0_ hb))
   go_ret2
   obtain ⟨rfl, rfl⟩ : ([] : List (S37)) = r1 ∧ false = r2 := by have := H'.out; simpa using this
   exact ⟨_, by first | rfl | (simp <;> rfl), Kd.R_nil _ _ _ _ _, below_step HB.out bq⟩
  ·rw [if_neg d] at H
   have db : ((l0.length : Int) == 12) = false := beq_eq_false_iff_ne.2 d; have db2 : (l0.length == 12) = false := beq_eq_false_iff_ne.2 (by omega); obtain ⟨b, A2_, H⟩ := Option.bind_eq_some_iff.mp H; obtain ⟨s, A3_, H⟩ := Option.bind_eq_some_iff.mp H; have Q2 := ak A2_; have Q3 := ak A3_; clear A2_ A3_ d
   obtain ⟨rfl, rfl⟩ : s = r1 ∧ true = r2 := by simpa using H
   clear H
   go_enter Tryz.func13, Tryz.ntmps13
   go_wp2_with (first | ((with_reducible refine gate_dst (N := 1) rfl ?_); refine box_event ?hg (N := 1) ?hd (cs := #[.slice A0 l0.length c0]) (t := 24) ?hr ?_; (case hd => rfl); (case hg => rfl); (case hr => (go_simp; done)); intro g5_ hg w5 hbox hb; have n0_ := ak (below_step bq hb); have cz5 : w5.cell? ⟨g5_, 0, none⟩ = some (.slice A0 l0.length c0) := (blk_cell hbox 0).trans rfl; clear HB; have HB := n0_; clear n0_ hb hg; have HR5 := ak (Kd.C_below HR0.out HB.out); have HCAP := ak (show CapR w5 ⟨g5_, 0, none⟩ l0 from ⟨A0, c0, cz5, HC0.out, HR5.out⟩); have HB1 := ak (Below.refl w5.heap.size w5); have cf5 := blk_frozen hbox 0; clear hbox) | (go_at_call 8; refine (impl_IsBody.calls k A0 c0 l0 true _ (Kd.C_below HR5.out bq) HC0.out Q1.out).mono ?_; rintro e w11 ⟨rfl, hb⟩; have n0_ := ak (below_step bq (by exact hb)); have n1_ := (below_cell_ cz5 n0_.out); clear HB1; have HB1 := n0_; clear n0_ hb) | (go_at_call 34; refine (impl_besides.calls k A0 c0 l0 b _ (Kd.C_below HR5.out bq) HC0.out Q2.out).mono ?_; rintro e w12 ⟨v1, rfl, ho, hb⟩; have HO1 := ak (Kd.R_lower ho (below_size bq)); have n0_ := ak (below_step bq hb); clear HB1; have HB1 := n0_; clear n0_ hb ho) | (go_at_call 33; refine (slices_DeleteFunc_CellsToStand_1.calls l0 ⟨g5_, 0, none⟩ k (fun _ => True) v1 b s w5 _ bq (rq HO1) HCAP.out Q3.out).mono ?_; rintro e w13 ⟨v2, rfl, ho2, hb2, _⟩; have HO2 := ak ho2; have HB2 := ak hb2; clear ho2 hb2))
   go_ret2
   exact ⟨_, by first | rfl | (simp <;> rfl), (by exact Kd.R_mono (Kd.R_lower HO2.out HB.out.size) (fun _ _ => trivial)), below_step HB.out bq⟩
end Go.Proofs.YtckhmeadflafaaaGreat.XFc
