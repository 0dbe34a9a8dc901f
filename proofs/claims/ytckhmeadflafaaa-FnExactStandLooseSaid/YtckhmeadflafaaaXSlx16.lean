/- Functions of the program as plain Lean functions, each with the proof that the machine's call does what it says: written by a program of this session out of the translation. -/
import Derived.Deep.RegionLaw
import Derived.Lib.SliceRun
import Derived.Lib.Hide
import Derived.Test.YtckhmeadflafaaaXSlx0
import Derived.Test.YtckhmeadflafaaaXSlx15
namespace Go.Proofs.Ytckhmeadflafaaa.XSl
open Go.RowKit Go.Proofs.YtckhmeadflafaaaW.PrintWords Go.Proofs.YtckhmeadflafaaaW.PrintLast Go.Proofs.YtckhmeadflafaaaW.PrintMore
attribute [local go_sem] max2_int min2_int max_two min_two max_three min_three max_four min_four   -- for this text's walks alone
set_option linter.unusedVariables false
set_option linter.unusedSimpArgs false

/-! ### slices_IndexFunc_StandLoose_1: function 118 -/
def slices_IndexFunc_StandLoose_1.l0 (g : List (S49)) : Nat → List Int → Int → Int → Option (Int)
 | 0, _, _, _ => none
 | k + 1, x0, x7, x8 => if x8 < x7 then (if 0 ≤ x8 then (if x8 < (x0.length : Int) then ((impl_StandLoose_1.f g k (rd x0 x8)).bind fun t336 => (if t336 = true then (some x8) else (slices_IndexFunc_StandLoose_1.l0 g k x0 x7 (wrap64 (x8 + 1))))) else (none)) else (none)) else (some (-1))
def slices_IndexFunc_StandLoose_1.f (g : List (S49)) (k : Nat) (l0 : List Int) : Option (Int) := slices_IndexFunc_StandLoose_1.l0 g k l0 (l0.length : Int) 0
theorem slices_IndexFunc_StandLoose_1.mono_l (g : List (S49)) : ∀ k, (∀ y0 y1 y2, LeO (slices_IndexFunc_StandLoose_1.l0 g k y0 y1 y2) (slices_IndexFunc_StandLoose_1.l0 g (k + 1) y0 y1 y2))
 | 0 => fun _ _ _ r h => by simp [slices_IndexFunc_StandLoose_1.l0] at h
 | k + 1 => by
  have ih0 := slices_IndexFunc_StandLoose_1.mono_l g k
  ·intro y0 y1 y2
   unfold slices_IndexFunc_StandLoose_1.l0
   repeat' first
   | (with_reducible exact ih0 _ _ _)
   | (with_reducible exact impl_StandLoose_1.mono g _ _)
   | (with_reducible exact LeO.refl _)
   | (with_reducible exact LeO.none _)
   | (with_reducible refine LeO.ite ?_ ?_)
   | (with_reducible refine LeO.bind ?_ (fun _ => ?_))
theorem slices_IndexFunc_StandLoose_1.mono (g : List (S49)) : ∀ a0 k, LeO (slices_IndexFunc_StandLoose_1.f g k a0) (slices_IndexFunc_StandLoose_1.f g (k + 1) a0) := by
 intro a0 k; have ih0 := slices_IndexFunc_StandLoose_1.mono_l g k
 unfold slices_IndexFunc_StandLoose_1.f
 repeat' first
   | (with_reducible exact ih0 _ _ _)
   | (with_reducible exact impl_StandLoose_1.mono g _ _)
   | (with_reducible exact LeO.refl _)
   | (with_reducible exact LeO.none _)
   | (with_reducible refine LeO.ite ?_ ?_)
   | (with_reducible refine LeO.bind ?_ (fun _ => ?_))
set_option maxHeartbeats 8000000 in
set_option maxRecDepth 100000 in
theorem slices_IndexFunc_StandLoose_1.calls (g : List (S49)) (pc : Addr) (k : Nat) (A0 : Option Addr) (c0 : Nat) (l0 : List Int) (r : Int) (w : World) (hr0 : Kd.C (Kd.int .i64) w A0 l0.length l0) (hc0 : l0.length ≤ c0) (hcap : CapR w pc g) (h : slices_IndexFunc_StandLoose_1.f g k l0 = some r) :
  Calls Try.prog 118 #[.slice A0 l0.length c0, .func (.func 89) #[] #[.pointer (some pc)]] w fun e w' => e = .returned (.int .i64 r) ∧ Below w.heap.size w w' := by
 have HR0 := Aside0.mk hr0; have HC0 := Aside0.mk hc0; clear hr0 hc0; have HB := Aside0.mk (Below.refl w.heap.size w); have H : (slices_IndexFunc_StandLoose_1.l0 g k l0 (l0.length : Int) 0) = some r := h; clear h; have H' := Aside0.mk H; clear H
 go_enter Try.func118, Try.ntmps118
 go_wp2
 go_loopg [8] k (fun kq v8 w' => ∃ (x8_1 : Int), v8 = .int .i64 x8_1 ∧ Aside0 (slices_IndexFunc_StandLoose_1.l0 g kq l0 (l0.length : Int) x8_1 = some r) ∧ Aside0 (kq ≤ k) ∧ Aside0 (Below w.heap.size w w'))
 case atStart => exact ⟨(0), (by first | rfl | (simp; done) | (simp [*]; done)), H', ⟨Nat.le_refl _⟩, ⟨by repeat (first | (with_reducible first | exact HB.out | apply below_alloc | apply pw_below_drewN | apply below_drew1) | exact HB.out | exact Below.refl _ _)⟩⟩
 case round =>
  clear H'; obtain ⟨x8_1, rfl, HA, HK1, HB⟩ := hrel
  cases gk with
  | zero => exact absurd HA.out (by simp [slices_IndexFunc_StandLoose_1.l0])
  | succ k1 =>
   have H := HA.out; clear HA; simp only [slices_IndexFunc_StandLoose_1.l0] at H
   by_cases c2 : x8_1 < (l0.length : Int)
   ·rw [if_pos c2] at H
    have c2b0 : decide (x8_1 < (l0.length : Int)) = true := decide_eq_true c2; clear c2
    by_cases c3 : 0 ≤ x8_1
    ·rw [if_pos c3] at H
     have c3b0 : decide (0 ≤ x8_1) = true := decide_eq_true c3; clear c3
     by_cases c4 : x8_1 < (l0.length : Int)
     ·rw [if_pos c4] at H
      have c4b0 : decide (x8_1 < (l0.length : Int)) = true := decide_eq_true c4; clear c4; replace H := Option.bind_eq_some_iff.mp H; obtain ⟨t336, A50, H⟩ := H; replace H : (if t336 = true then (some x8_1) else (slices_IndexFunc_StandLoose_1.l0 g k1 l0 (l0.length : Int) (wrap64 (x8_1 + 1)))) = some r := H; have A5 := Aside0.mk A50; clear A50
      by_cases c6 : t336 = true
      ·subst c6
       have H1 : (some x8_1) = some r := by rw [if_pos rfl] at H; exact H
       clear H; have H := H1; clear H1; obtain rfl := Option.some.inj H; have p335 : 0 ≤ (x8_1 : Int) := of_decide_eq_true (by first | (with_reducible assumption) | assumption); have q335 : x8_1 < (l0.length : Int) := of_decide_eq_true (by first | (with_reducible assumption) | assumption); obtain ⟨ad335, e335, hx335_0⟩ := Kd.at_int HR0.out x8_1 p335 q335; cases e335; replace hx335_0 := (HB.out.cell (World.block_lt_of_cell? w _ hx335_0)).trans hx335_0; replace p335 := eq_true p335; replace q335 := eq_true q335
       go_wp2_with (first | (go_at_call 89; (with_reducible refine (impl_StandLoose_1.calls g pc k1 (rd l0 x8_1) true _ (by first | exact hcap | exact capr_at (by repeat (first | (with_reducible first | exact HB.out | apply below_alloc | apply pw_below_drewN | apply below_drew1) | exact HB.out | exact Below.refl _ _)) hcap) A5.out).mono ?_); rintro e w7 ⟨rfl, hb⟩; have n0_ := Aside0.mk (below_step (by repeat (first | (with_reducible first | exact HB.out | apply below_alloc | apply pw_below_drewN | apply below_drew1) | exact HB.out)) hb); clear HB; have HB := n0_; clear n0_; (try clear hb); (try clear hb2); (try clear hk); (try clear hi)))
       go_ret; exact ⟨by first | rfl | (simp [errW_none, errW_some] <;> rfl) | (simp [*, errW_none, errW_some] <;> rfl), by repeat (first | (with_reducible first | exact HB.out | apply below_alloc | apply pw_below_drewN | apply below_drew1) | exact HB.out)⟩
      ·replace c6 := Bool.eq_false_iff.mpr c6
       subst c6
       have H1 : (slices_IndexFunc_StandLoose_1.l0 g k1 l0 (l0.length : Int) (wrap64 (x8_1 + 1))) = some r := by rw [if_neg (show ¬ (false = true) by decide)] at H; exact H
       clear H; have H := H1; clear H1; have H' := Aside0.mk H; clear H; have p335 : 0 ≤ (x8_1 : Int) := of_decide_eq_true (by first | (with_reducible assumption) | assumption); have q335 : x8_1 < (l0.length : Int) := of_decide_eq_true (by first | (with_reducible assumption) | assumption); obtain ⟨ad335, e335, hx335_0⟩ := Kd.at_int HR0.out x8_1 p335 q335; cases e335; replace hx335_0 := (HB.out.cell (World.block_lt_of_cell? w _ hx335_0)).trans hx335_0; replace p335 := eq_true p335; replace q335 := eq_true q335
       go_wp2_with (first | (go_at_call 89; (with_reducible refine (impl_StandLoose_1.calls g pc k1 (rd l0 x8_1) false _ (by first | exact hcap | exact capr_at (by repeat (first | (with_reducible first | exact HB.out | apply below_alloc | apply pw_below_drewN | apply below_drew1) | exact HB.out | exact Below.refl _ _)) hcap) A5.out).mono ?_); rintro e w8 ⟨rfl, hb⟩; have n0_ := Aside0.mk (below_step (by repeat (first | (with_reducible first | exact HB.out | apply below_alloc | apply pw_below_drewN | apply below_drew1) | exact HB.out)) hb); clear HB; have HB := n0_; clear n0_; (try clear hb); (try clear hb2); (try clear hk); (try clear hi)))
       go_roundg k1
       case measure => have := HK1.out; omega
       case rel => exact ⟨(wrap64 (x8_1 + 1)), (by first | rfl | (simp; done) | (simp [*]; done)), H', ⟨by have := HK1.out; omega⟩, ⟨by repeat (first | (with_reducible first | exact HB.out | apply below_alloc | apply pw_below_drewN | apply below_drew1) | exact HB.out)⟩⟩
     ·rw [if_neg c4] at H
      exact absurd H (by simp)
    ·rw [if_neg c3] at H
     exact absurd H (by simp)
   ·rw [if_neg c2] at H
    have c2b0 : decide (x8_1 < (l0.length : Int)) = false := decide_eq_false c2; clear c2; obtain rfl := Option.some.inj H; go_wp2; go_ret; exact ⟨by first | rfl | (simp [errW_none, errW_some] <;> rfl) | (simp [*, errW_none, errW_some] <;> rfl), by repeat (first | (with_reducible first | exact HB.out | apply below_alloc | apply pw_below_drewN | apply below_drew1) | exact HB.out)⟩

/-! ### slices_DeleteFunc_StandLoose_1: function 88, by hand -/
def slices_DeleteFunc_StandLoose_1.l0 (g : List (S49)) : Nat → List Int → Int → Int → Option (List Int)
 | 0, _, _, _ => none
 | k + 1, x0, x5, x6 => if x6 < (x0.length : Int) then (if 0 ≤ x6 then ((impl_StandLoose_1.f g k (rd x0 x6)).bind fun t339 => (if t339 = true then (slices_DeleteFunc_StandLoose_1.l0 g k x0 x5 (wrap64 (x6 + 1))) else (if 0 ≤ x5 then (if x5 < (x0.length : Int) then (slices_DeleteFunc_StandLoose_1.l0 g k (x0.set (x5 : Int).toNat (rd x0 x6)) (wrap64 (x5 + 1)) (wrap64 (x6 + 1))) else (none)) else (none)))) else (none)) else (if 0 ≤ x5 then (if x5 < (x0.length : Int) then (some (x0.take (x5 : Int).toNat)) else (none)) else (none))
def slices_DeleteFunc_StandLoose_1.f (g : List (S49)) (k : Nat) (l0 : List Int) : Option (List Int) := (slices_IndexFunc_StandLoose_1.f g k l0).bind fun t337 => (if t337 = (-1) then (some l0) else (slices_DeleteFunc_StandLoose_1.l0 g k l0 t337 (wrap64 (t337 + 1))))
theorem slices_DeleteFunc_StandLoose_1.setCells_blk {g : Nat} {t : TypeId} : ∀ (vs : List Value) (o : Nat) {w : World} {cs : Array Value}, w.heap[g]? = some (.cells cs t (0, 0)) → ∃ cs', (w.setCells g o vs).heap[g]? = some (.cells cs' t (0, 0)) ∧ cs'.size = cs.size ∧ (∀ i, i < o → cs'[i]? = cs[i]?) ∧ w.grownBy (w.setCells g o vs) (some g) := by
 intro vs
 induction vs with
 | nil => intro o w cs h; exact ⟨cs, h, rfl, fun _ _ => rfl, ⟨rfl, rfl, rfl, Nat.le_refl _, fun _ _ _ => rfl⟩⟩
 | cons v r ih =>
  intro o w cs h; have h1 := blk_set h o v; obtain ⟨cs', e1, e2, e3, e4⟩ := ih (o + 1) h1; refine ⟨cs', e1, by rw [e2]; simp, fun i hi => ?_, ?_⟩
  ·rw [e3 i (by omega), Array.getElem?_setIfInBounds_ne (by omega)]
  ·have g1 : w.grownBy (w.setCell ⟨g, o, none⟩ v) (some g) := ⟨(Below.setCell (Below.refl 0 w) (Nat.zero_le _) v).os, (Below.setCell (Below.refl 0 w) (Nat.zero_le _) v).tape, (Below.setCell (Below.refl 0 w) (Nat.zero_le _) v).output, by simp, fun k hk hne => Below.heap_setCell w ⟨g, o, none⟩ v k (fun e => hne (by rw [e]))⟩
   exact World.grownBy.trans g1 e4
/-- The cells behind a row's elements are set to zero: the row stays. -/
theorem slices_DeleteFunc_StandLoose_1.R_clear {α : Type} (d : Kd α) {W : World} {base e g n c m c2 : Nat} {xs : List α} {ok : Nat → Prop} (t : TypeId) (z : Value) (ht : Try.prog.underlying t = some (.slice e)) (hv : ∀ w, (zeroValue e).run Try.prog w = .ok z w) (hzs : z.cells.size = d.sz) (h1 : ∀ u ∈ z.cells, u.oneCell' = true) (hd0 : 0 < d.sz) (hM : ∀ (W W' : World) (base : Nat) (ok : Nat → Prop) p c, d.M W base ok p c → d.M W' base ok p c)
  (HO : d.R e W base ok (.slice (some ⟨g, 0, none⟩) n c) xs) (hm : n + m ≤ c) (hm0 : 0 < m) :
  ∃ w1, (∀ ty, (Builtin.clear_ #[t] ty #[.slice (some ⟨g, n * d.sz, none⟩) m c2]).run Try.prog W = .ok (.tuple #[]) w1) ∧ d.R e w1 base ok (.slice (some ⟨g, 0, none⟩) n c) xs ∧ W.grownBy w1 (some g) := by
 obtain ⟨hok, inner, ⟨ho1, ho2⟩, hr⟩ := HO
 rcases ho2 with ⟨hv', _⟩ | ⟨g', cap', cur, hv', hb, hh, h2, hcm, hcs, htake⟩
 ·cases hv'
 injection hv' with ha hn hc
 injection ha with ha
 injection ha with hg
 subst hg; subst hc; subst hn
 have hzl : (Builtin.zeroCells z.cells m).toList.length = m * d.sz := by simp [Builtin.zeroCells, hzs]
 obtain ⟨cs', e1, e2, e3, e4⟩ := slices_DeleteFunc_StandLoose_1.setCells_blk (Builtin.zeroCells z.cells m).toList (xs.length * d.sz) hh; have hmul : (xs.length + m) * d.sz ≤ c * d.sz := Nat.mul_le_mul_right _ hm; rw [Nat.add_mul] at hmul
 have hcell : ∀ j, j < m * d.sz → (W.cell? ⟨g, xs.length * d.sz + 0 + j, none⟩).isSome = true := by
  intro j hj; rw [blk_cell hh, Array.getElem?_eq_getElem (by rw [hcs]; omega)]; rfl
 refine ⟨W.setCells g (xs.length * d.sz) (Builtin.zeroCells z.cells m).toList, fun ty => ?_, ⟨hok, inner, ⟨ho1, Or.inr ⟨g, c, cs', rfl, hb, e1, h2, hcm, by rw [e2]; exact hcs, ?_⟩⟩, hr.imp_ (fun p c hp => hM _ _ _ _ _ _ hp)⟩, e4⟩
 ·have hst := run_storeCells_cells (P := Try.prog) g (xs.length * d.sz) (Builtin.zeroCells z.cells m).toList 0 W (by rw [hzl]; exact hcell) (by intro j _; exact blk_frozen hh _) (by
   intro v hv2; simp only [Builtin.zeroCells, Array.toList_map, List.mem_map] at hv2; obtain ⟨i, hi, rfl⟩ := hv2; have hlt : i % z.cells.size < z.cells.size := Nat.mod_lt _ (by omega); rw [getElem!_pos z.cells _ hlt]
   exact h1 _ (Array.getElem_mem hlt))
  simp only [Nat.add_zero] at hst; obtain ⟨m', rfl⟩ : ∃ m', m = m' + 1 := ⟨m - 1, by omega⟩
  simp [Builtin.clear_, run_underlying ht, hv, hst]
 ·rw [← htake]
  apply List.ext_getElem?
  intro i
  by_cases hi : i < xs.length * d.sz
  ·rw [List.getElem?_take_of_lt hi, List.getElem?_take_of_lt hi, Array.getElem?_toList, Array.getElem?_toList, e3 i hi]
  ·rw [List.getElem?_take_eq_none (by omega), List.getElem?_take_eq_none (by omega)]
theorem slices_DeleteFunc_StandLoose_1.zero (w : World) : (zeroValue 3).run Try.prog w = .ok (.int .i64 0) w := by kernel_rfl
theorem slices_DeleteFunc_StandLoose_1.M (W W' : World) (base : Nat) (ok : Nat → Prop) (p : Int) (c : List Value) (h : (Kd.int .i64).M W base ok p c) : (Kd.int .i64).M W' base ok p c := h
theorem slices_DeleteFunc_StandLoose_1.mono_l (g : List (S49)) : ∀ k, (∀ y0 y1 y2, LeO (slices_DeleteFunc_StandLoose_1.l0 g k y0 y1 y2) (slices_DeleteFunc_StandLoose_1.l0 g (k + 1) y0 y1 y2))
 | 0 => fun _ _ _ r h => by simp [slices_DeleteFunc_StandLoose_1.l0] at h
 | k + 1 => by
  have ih0 := slices_DeleteFunc_StandLoose_1.mono_l g k
  ·intro y0 y1 y2
   unfold slices_DeleteFunc_StandLoose_1.l0
   repeat' first
   | (with_reducible exact ih0 _ _ _)
   | (with_reducible exact impl_StandLoose_1.mono g _ _)
   | (with_reducible exact slices_IndexFunc_StandLoose_1.mono g _ _)
   | (with_reducible exact LeO.refl _)
   | (with_reducible exact LeO.none _)
   | (with_reducible refine LeO.ite ?_ ?_)
   | (with_reducible refine LeO.bind ?_ (fun _ => ?_))
theorem slices_DeleteFunc_StandLoose_1.mono (g : List (S49)) : ∀ a0 k, LeO (slices_DeleteFunc_StandLoose_1.f g k a0) (slices_DeleteFunc_StandLoose_1.f g (k + 1) a0) := by
 intro a0 k; have ih0 := slices_DeleteFunc_StandLoose_1.mono_l g k
 unfold slices_DeleteFunc_StandLoose_1.f
 repeat' first
   | (with_reducible exact ih0 _ _ _)
   | (with_reducible exact impl_StandLoose_1.mono g _ _)
   | (with_reducible exact slices_IndexFunc_StandLoose_1.mono g _ _)
   | (with_reducible exact LeO.refl _)
   | (with_reducible exact LeO.none _)
   | (with_reducible refine LeO.ite ?_ ?_)
   | (with_reducible refine LeO.bind ?_ (fun _ => ?_))
set_option maxHeartbeats 8000000 in
set_option maxRecDepth 100000 in
theorem slices_DeleteFunc_StandLoose_1.calls (g : List (S49)) (pc : Addr) (k : Nat) (P0_ : Nat → Prop) (u9000_ : Value) (l0 : List Int) (r : List Int) (w0 w : World) (hB : Below w0.heap.size w0 w) (ho0 : Kd.R (Kd.int .i64) 3 w w0.heap.size P0_ u9000_ l0) (hcap : CapR w0 pc g) (h : slices_DeleteFunc_StandLoose_1.f g k l0 = some r) :
  Calls Try.prog 88 #[u9000_, .func (.func 89) #[] #[.pointer (some pc)]] w fun e w' => ∃ v0_ : Value, e = .returned (v0_) ∧ Kd.R (Kd.int .i64) 3 w' w0.heap.size (fun k_ => (P0_ k_ ∨ w.heap.size ≤ k_)) v0_ r ∧ Below w0.heap.size w0 w' ∧ Kept w w' (fun k_ => P0_ k_) := by
 have HO0 := Aside0.mk (show Kd.R (Kd.int .i64) 3 w w0.heap.size (fun k_ => (P0_ k_ ∨ w.heap.size ≤ k_)) u9000_ l0 from Kd.R_mono ho0 (fun k_ hk => (.inl hk))); have HK := Aside0.mk (Kept.refl w (fun k_ => P0_ k_)); have HW0 := Aside0.mk hB.size; have HB := Aside0.mk hB; clear hB; have H : ((slices_IndexFunc_StandLoose_1.f g k l0).bind fun t337 => (if t337 = (-1) then (some l0) else (slices_DeleteFunc_StandLoose_1.l0 g k l0 t337 (wrap64 (t337 + 1))))) = some r := h; clear h; replace H := Option.bind_eq_some_iff.mp H; obtain ⟨t337, A20, H⟩ := H; replace H : (if t337 = (-1) then (some l0) else (slices_DeleteFunc_StandLoose_1.l0 g k l0 t337 (wrap64 (t337 + 1)))) = some r := H; have A2 := Aside0.mk A20; clear A20
 by_cases c3 : t337 = (-1)
 ·rw [if_pos c3] at H
  have c3b0 : (t337 == (-1)) = true := beq_iff_eq.mpr c3; have c3b1 : (t337 != (-1)) = false := bne_eq_false_iff_eq.mpr c3; clear c3; obtain rfl := Option.some.inj H; obtain ⟨Ao4, co4, eo4⟩ := Kd.R_slice HO0.out; subst eo4
  go_enter Try.func88, Try.ntmps88
  go_wp2_with (first | ((with_reducible refine gate_callee (f := 118) rfl ?_); refine goesL_ (some 10) rfl rfl Try.func118 (by kernel_rfl) rfl #[.slice Ao4 l0.length co4, .func (.func 89) #[] #[.pointer (some pc)]] rfl (by (try simp only [List.map_toArray, List.map_cons, List.map_nil]); first | done | rfl | (simp only [List.length_drop, List.length_take]; rfl)) ?_; (with_reducible refine (slices_IndexFunc_StandLoose_1.calls g pc k _ _ l0 t337 _ ?side1 ?side2 (by first | exact hcap | exact capr_at (by repeat (first | (with_reducible first | exact HB.out | apply below_alloc | apply pw_below_drewN | apply below_drew1) | exact HB.out | exact Below.refl _ _)) hcap) A2.out).mono ?_); (case side1 => repeat (first | exact (Kd.R_reads' HO0.out).2.2 | (with_reducible refine Kd.C_alloc ?_ _) | (with_reducible refine Kd.C_drewN ?_ _) | (with_reducible refine Kd.C_drew ?_))); (case side2 => exact (Kd.R_reads' HO0.out).2.1); rintro e w5 ⟨rfl, hb⟩; refine ⟨_, rfl, ?_⟩; have n0_ := Aside0.mk (Kd.R_below (by (with_reducible repeat (first | apply Kd.R_alloc | apply Kd.R_drewN | apply Kd.R_drew)); exact HO0.out) hb); have n1_ := Aside0.mk (Kept.below (S := (fun k_ => P0_ k_)) (by repeat (first | (with_reducible first | exact HK.out | apply Kept.alloc | apply Kept.drewN | apply Kept.drew) | exact HK.out)) hb); have n2_ := Aside0.mk (below_step (by repeat (first | (with_reducible first | exact HB.out | apply below_alloc | apply pw_below_drewN | apply below_drew1) | exact HB.out)) hb); clear HO0; clear HK; clear HB; have HO0 := n0_; have HK := n1_; have HB := n2_; clear n0_ n1_ n2_; (try clear hb); (try clear hb2); (try clear hk); (try clear hi)))
  go_ret; exact ⟨_, by first | rfl | (simp [errW_none, errW_some] <;> rfl) | (simp [*, errW_none, errW_some] <;> rfl), by (with_reducible repeat (first | apply Kd.R_alloc | apply Kd.R_drewN | apply Kd.R_drew)); exact HO0.out, by repeat (first | (with_reducible first | exact HB.out | apply below_alloc | apply pw_below_drewN | apply below_drew1) | exact HB.out), by repeat (first | (with_reducible first | exact HK.out | apply Kept.alloc | apply Kept.drewN | apply Kept.drew) | exact HK.out)⟩
 ·rw [if_neg c3] at H
  have c3b0 : (t337 == (-1)) = false := beq_eq_false_iff_ne.mpr c3; have c3b1 : (t337 != (-1)) = true := bne_iff_ne.mpr c3; have H' := Aside0.mk H; clear H; obtain ⟨Ao6, co6, eo6⟩ := Kd.R_slice HO0.out; subst eo6
  go_enter Try.func88, Try.ntmps88
  go_wp2_with (first | ((with_reducible refine gate_callee (f := 118) rfl ?_); refine goesL_ (some 10) rfl rfl Try.func118 (by kernel_rfl) rfl #[.slice Ao6 l0.length co6, .func (.func 89) #[] #[.pointer (some pc)]] rfl (by (try simp only [List.map_toArray, List.map_cons, List.map_nil]); first | done | rfl | (simp only [List.length_drop, List.length_take]; rfl)) ?_; (with_reducible refine (slices_IndexFunc_StandLoose_1.calls g pc k _ _ l0 t337 _ ?side1 ?side2 (by first | exact hcap | exact capr_at (by repeat (first | (with_reducible first | exact HB.out | apply below_alloc | apply pw_below_drewN | apply below_drew1) | exact HB.out | exact Below.refl _ _)) hcap) A2.out).mono ?_); (case side1 => repeat (first | exact (Kd.R_reads' HO0.out).2.2 | (with_reducible refine Kd.C_alloc ?_ _) | (with_reducible refine Kd.C_drewN ?_ _) | (with_reducible refine Kd.C_drew ?_))); (case side2 => exact (Kd.R_reads' HO0.out).2.1); rintro e w7 ⟨rfl, hb⟩; refine ⟨_, rfl, ?_⟩; have n0_ := Aside0.mk (Kd.R_below (by (with_reducible repeat (first | apply Kd.R_alloc | apply Kd.R_drewN | apply Kd.R_drew)); exact HO0.out) hb); have n1_ := Aside0.mk (Kept.below (S := (fun k_ => P0_ k_)) (by repeat (first | (with_reducible first | exact HK.out | apply Kept.alloc | apply Kept.drewN | apply Kept.drew) | exact HK.out)) hb); have n2_ := Aside0.mk (below_step (by repeat (first | (with_reducible first | exact HB.out | apply below_alloc | apply pw_below_drewN | apply below_drew1) | exact HB.out)) hb); clear HO0; clear HK; clear HB; have HO0 := n0_; have HK := n1_; have HB := n2_; clear n0_ n1_ n2_; (try clear hb); (try clear hb2); (try clear hk); (try clear hi)))
  (try simp only [Act.put, sA, sZ, sS])
  go_loopg [5, 6] k (fun kq v5 v6 w' => ∃ (x0_1 : List Int) (x5_1 : Int) (x6_1 : Int), v5 = .int .i64 x5_1 ∧ v6 = .int .i64 x6_1 ∧ Aside0 (slices_DeleteFunc_StandLoose_1.l0 g kq x0_1 x5_1 x6_1 = some r) ∧ Aside0 (kq ≤ k) ∧ Aside0 (Kd.R (Kd.int .i64) 3 w' w0.heap.size (fun k_ => (P0_ k_ ∨ w.heap.size ≤ k_)) (.slice Ao6 l0.length co6) x0_1) ∧ Aside0 (Kept w w' (fun k_ => P0_ k_)) ∧ Aside0 (Below w0.heap.size w0 w'))
  case atStart => exact ⟨(l0), (t337), (wrap64 (t337 + 1)), (by first | rfl | (simp; done) | (simp [*]; done)), (by first | rfl | (simp; done) | (simp [*]; done)), H', ⟨Nat.le_refl _⟩, ⟨by (with_reducible repeat (first | apply Kd.R_alloc | apply Kd.R_drewN | apply Kd.R_drew)); exact HO0.out⟩, ⟨by repeat (first | (with_reducible first | exact HK.out | apply Kept.alloc | apply Kept.drewN | apply Kept.drew) | exact HK.out)⟩, ⟨by repeat (first | (with_reducible first | exact HB.out | apply below_alloc | apply pw_below_drewN | apply below_drew1) | exact HB.out | exact Below.refl _ _)⟩⟩
  case round =>
   clear H'; (try clear p2); (try clear c3); (try clear c3b0); (try clear c3b1); (try clear p6); obtain ⟨x0_1, x5_1, x6_1, rfl, rfl, HA, HK1, HO_0, HK, HB⟩ := hrel; have hl0_1 := (Kd.R_reads' HO_0.out).1; rw [hl0_1] at HO_0
   (try simp only [hl0_1])
   cases gk with
   | zero => exact absurd HA.out (by simp [slices_DeleteFunc_StandLoose_1.l0])
   | succ k1 =>
    have H := HA.out; clear HA; simp only [slices_DeleteFunc_StandLoose_1.l0] at H
    by_cases c8 : x6_1 < (x0_1.length : Int)
    ·rw [if_pos c8] at H
     have c8b0 : decide (x6_1 < (x0_1.length : Int)) = true := decide_eq_true c8; clear c8
     by_cases c9 : 0 ≤ x6_1
     ·rw [if_pos c9] at H
      have c9b0 : decide (0 ≤ x6_1) = true := decide_eq_true c9; clear c9; replace H := Option.bind_eq_some_iff.mp H; obtain ⟨t339, A100, H⟩ := H; replace H : (if t339 = true then (slices_DeleteFunc_StandLoose_1.l0 g k1 x0_1 x5_1 (wrap64 (x6_1 + 1))) else (if 0 ≤ x5_1 then (if x5_1 < (x0_1.length : Int) then (slices_DeleteFunc_StandLoose_1.l0 g k1 (x0_1.set (x5_1 : Int).toNat (rd x0_1 x6_1)) (wrap64 (x5_1 + 1)) (wrap64 (x6_1 + 1))) else (none)) else (none))) = some r := H; have A10 := Aside0.mk A100; clear A100
      by_cases c11 : t339 = true
      ·subst c11
       have H1 : (slices_DeleteFunc_StandLoose_1.l0 g k1 x0_1 x5_1 (wrap64 (x6_1 + 1))) = some r := by rw [if_pos rfl] at H; exact H
       clear H; have H := H1; clear H1; have H' := Aside0.mk H; clear H; have p338 : 0 ≤ (x6_1 : Int) := of_decide_eq_true (by first | (with_reducible assumption) | assumption); have q338 : x6_1 < (x0_1.length : Int) := of_decide_eq_true (by first | (with_reducible assumption) | assumption); obtain ⟨ad338, e338, hx338_0⟩ := Kd.at_int (Kd.R_reads' HO_0.out).2.2 x6_1 p338 q338; cases e338; replace p338 := eq_true p338; replace q338 := eq_true q338
       go_wp2_with (first | (go_at_call 89; (with_reducible refine (impl_StandLoose_1.calls g pc k1 (rd x0_1 x6_1) true _ (by first | exact hcap | exact capr_at (by repeat (first | (with_reducible first | exact HB.out | apply below_alloc | apply pw_below_drewN | apply below_drew1) | exact HB.out | exact Below.refl _ _)) hcap) A10.out).mono ?_); rintro e w12 ⟨rfl, hb⟩; have n0_ := Aside0.mk (Kd.R_below (by (with_reducible repeat (first | apply Kd.R_alloc | apply Kd.R_drewN | apply Kd.R_drew)); exact HO_0.out) hb); have n1_ := Aside0.mk (Kept.below (S := (fun k_ => P0_ k_)) (by repeat (first | (with_reducible first | exact HK.out | apply Kept.alloc | apply Kept.drewN | apply Kept.drew) | exact HK.out)) hb); have n2_ := Aside0.mk (below_step (by repeat (first | (with_reducible first | exact HB.out | apply below_alloc | apply pw_below_drewN | apply below_drew1) | exact HB.out)) hb); clear HO_0; clear HK; clear HB; have HO_0 := n0_; have HK := n1_; have HB := n2_; clear n0_ n1_ n2_; (try clear hb); (try clear hb2); (try clear hk); (try clear hi)))
       (try simp only [← hl0_1])
       go_roundg k1
       case measure => have := HK1.out; omega
       case rel => exact ⟨(x0_1), (x5_1), (wrap64 (x6_1 + 1)), (by first | rfl | (simp; done) | (simp [*]; done)), (by first | rfl | (simp; done) | (simp [*]; done)), H', ⟨by have := HK1.out; omega⟩, ⟨by (try simp only [hl0_1]); (with_reducible repeat (first | apply Kd.R_alloc | apply Kd.R_drewN | apply Kd.R_drew)); exact HO_0.out⟩, ⟨by repeat (first | (with_reducible first | exact HK.out | apply Kept.alloc | apply Kept.drewN | apply Kept.drew) | exact HK.out)⟩, ⟨by repeat (first | (with_reducible first | exact HB.out | apply below_alloc | apply pw_below_drewN | apply below_drew1) | exact HB.out)⟩⟩
      ·replace c11 := Bool.eq_false_iff.mpr c11
       subst c11
       have H1 : (if 0 ≤ x5_1 then (if x5_1 < (x0_1.length : Int) then (slices_DeleteFunc_StandLoose_1.l0 g k1 (x0_1.set (x5_1 : Int).toNat (rd x0_1 x6_1)) (wrap64 (x5_1 + 1)) (wrap64 (x6_1 + 1))) else (none)) else (none)) = some r := by rw [if_neg (show ¬ (false = true) by decide)] at H; exact H
       clear H; have H := H1; clear H1
       by_cases c13 : 0 ≤ x5_1
       ·rw [if_pos c13] at H
        have c13b0 : decide (0 ≤ x5_1) = true := decide_eq_true c13; clear c13
        by_cases c14 : x5_1 < (x0_1.length : Int)
        ·rw [if_pos c14] at H
         have c14b0 : decide (x5_1 < (x0_1.length : Int)) = true := decide_eq_true c14; clear c14; obtain ⟨y340, hy340⟩ : ∃ y_ : List Int, y_ = (x0_1.set (x5_1 : Int).toNat (rd x0_1 x6_1)) := ⟨_, rfl⟩
         replace H : (slices_DeleteFunc_StandLoose_1.l0 g k1 y340 (wrap64 (x5_1 + 1)) (wrap64 (x6_1 + 1))) = some r := by first | (rw [hy340]; with_reducible exact H) | (have H2_ := (Option.bind_some _ _).symm.trans H; rw [hy340]; with_reducible exact H2_) | (have H2_ := (Option.bind_some _ _).symm.trans H; with_reducible exact H2_) | with_reducible exact H | (rw [hy340]; exact H) | exact H
         have Ny340 := Aside0.mk hy340; clear hy340; have H' := Aside0.mk H; clear H; have p338 : 0 ≤ (x6_1 : Int) := of_decide_eq_true (by first | (with_reducible assumption) | assumption); have q338 : x6_1 < (x0_1.length : Int) := of_decide_eq_true (by first | (with_reducible assumption) | assumption); obtain ⟨ad338, e338, hx338_0⟩ := Kd.at_int (Kd.R_reads' HO_0.out).2.2 x6_1 p338 q338; cases e338; replace p338 := eq_true p338; replace q338 := eq_true q338
         go_wp2_with (first | (go_at_call 89; (with_reducible refine (impl_StandLoose_1.calls g pc k1 (rd x0_1 x6_1) false _ (by first | exact hcap | exact capr_at (by repeat (first | (with_reducible first | exact HB.out | apply below_alloc | apply pw_below_drewN | apply below_drew1) | exact HB.out | exact Below.refl _ _)) hcap) A10.out).mono ?_); rintro e w16 ⟨rfl, hb⟩; have n0_ := Aside0.mk (Kd.R_below (by (with_reducible repeat (first | apply Kd.R_alloc | apply Kd.R_drewN | apply Kd.R_drew)); exact HO_0.out) hb); have n1_ := Aside0.mk (Kept.below (S := (fun k_ => P0_ k_)) (by repeat (first | (with_reducible first | exact HK.out | apply Kept.alloc | apply Kept.drewN | apply Kept.drew) | exact HK.out)) hb); have n2_ := Aside0.mk (below_step (by repeat (first | (with_reducible first | exact HB.out | apply below_alloc | apply pw_below_drewN | apply below_drew1) | exact HB.out)) hb); clear HO_0; clear HK; clear HB; have HO_0 := n0_; have HK := n1_; have HB := n2_; clear n0_ n1_ n2_; (try clear hb); (try clear hb2); (try clear hk); (try clear hi); have p15 : 0 ≤ (x5_1 : Int) := of_decide_eq_true (by first | (with_reducible assumption) | assumption); have q15 : (x5_1 : Int) < ((x0_1.length : Int) : Int) := of_decide_eq_true (by first | (with_reducible assumption) | assumption); obtain ⟨go15, co15, eo15, gb15, gl15, cl15, HG15⟩ := Kd.R_form HO_0.out (by omega); (first | cases eo15 | (injection eo15 with ea_ en_ ec_; (first | subst ea_ | (injection ea_ with ea_; subst ea_)); subst ec_; clear en_)); have GB15 := Aside0.mk gb15; have GG15 := Aside0.mk HG15; clear gb15 gl15 HG15; have HMgo15 := Aside0.mk (show (P0_ go15 ∨ w.heap.size ≤ go15) from (HO_0.out.1 _ rfl)); (first | simp only [add_plain] at hx338_0 | skip); obtain ⟨hx15_0, hf15_0⟩ := Kd.R_celln 0 HO_0.out (x5_1 : Int) p15 q15; replace p15 := eq_true p15; replace q15 := eq_true q15; obtain ⟨hy17_, hz17_⟩ := Kd.R_celln 0 HO_0.out (x5_1 : Int) (of_decide_eq_true (by first | (with_reducible assumption) | assumption)) (of_decide_eq_true (by first | (with_reducible assumption) | assumption)); have HP17 := Kd.R_putg HO_0.out (x5_1 : Int) (rd x0_1 x6_1)) | ((with_reducible refine gate_store (t := 3) (p := 33) rfl ?_); refine store_event (t := 3) (p := 33) (v := ?vo_w18) (w1 := (w16.setCell ⟨go15, (x5_1 : Int).toNat, none⟩ (.int .i64 (rd x0_1 x6_1)))) ?hg ?ho ?hn ?hr ?_; (case ho => rfl); (case hg => rfl); (case hn => rfl); (case hr => first | (go_simp; done) | (go_simp; rfl)); intro w18 hw; have hg : w16.grownBy w18 (some go15) := (by rw [hw]; exact HP17.2); have hp_ : Kd.R (Kd.int .i64) 3 w18 w0.heap.size (fun k_ => (P0_ k_ ∨ w.heap.size ≤ k_)) (.slice (some ⟨go15, 0, none⟩) x0_1.length co6) y340 := (by rw [hw, Ny340.out]; exact HP17.1); clear HP17; have n0_ := Aside0.mk (hp_); have n1_ := Aside0.mk ((by rw [hw]; exact below_set (HB.out) GB15.out : Below w0.heap.size w0 w18)); have n2_ := Aside0.mk (Kept.of_grown (S := (fun k_ => P0_ k_)) hg (by repeat (first | (with_reducible first | exact HK.out | apply Kept.alloc | apply Kept.drewN | apply Kept.drew) | exact HK.out)) (fun k_ e_ => (HO_0.out.1 k_ e_))); clear HO_0; clear HB; clear HK; have HO_0 := n0_; have HB := n1_; have HK := n2_; clear n0_ n1_ n2_; clear hg hw hp_))
         (try simp only [← hl0_1])
         go_roundg k1
         case measure => have := HK1.out; omega
         case rel => exact ⟨(y340), (wrap64 (x5_1 + 1)), (wrap64 (x6_1 + 1)), (by first | rfl | (simp; done) | (simp [*]; done)), (by first | rfl | (simp; done) | (simp [*]; done)), H', ⟨by have := HK1.out; omega⟩, ⟨by (try simp only [hl0_1]); (with_reducible repeat (first | apply Kd.R_alloc | apply Kd.R_drewN | apply Kd.R_drew)); exact HO_0.out⟩, ⟨by repeat (first | (with_reducible first | exact HK.out | apply Kept.alloc | apply Kept.drewN | apply Kept.drew) | exact HK.out)⟩, ⟨by repeat (first | (with_reducible first | exact HB.out | apply below_alloc | apply pw_below_drewN | apply below_drew1) | exact HB.out)⟩⟩
        ·rw [if_neg c14] at H
         exact absurd H (by simp)
       ·rw [if_neg c13] at H
        exact absurd H (by simp)
     ·rw [if_neg c9] at H
      exact absurd H (by simp)
    ·rw [if_neg c8] at H
     have c8b0 : decide (x6_1 < (x0_1.length : Int)) = false := decide_eq_false c8; clear c8
     by_cases c19 : 0 ≤ x5_1
     ·rw [if_pos c19] at H
      by_cases c20 : x5_1 < (x0_1.length : Int)
      ·rw [if_pos c20] at H
       obtain ⟨i, rfl⟩ := Int.eq_ofNat_of_zero_le c19
       have hi : i < x0_1.length := by omega
       rw [Int.toNat_natCast] at H; obtain rfl := Option.some.inj H; clear H; obtain ⟨go, cap, e_, gb, gl, cl, HG⟩ := Kd.R_form HO_0.out (by omega)
       obtain ⟨e1, e2, e3⟩ : Ao6 = some ⟨go, 0, none⟩ ∧ x0_1.length = x0_1.length ∧ co6 = cap := by injection e_ with a_ b_ c_; exact ⟨a_, rfl, c_⟩
       subst e1; subst e3; have hroom := (Kd.R_reads' HO_0.out).2.1; obtain ⟨i022, hi022, _, hsz22, _⟩ := info_parts info3; have hcut22 := cut_from (P := Try.prog) 24 3 .i64 Try.underlying24 hi022 1 hsz22 (some ⟨go, 0, none⟩) x0_1.length co6 (i : Int) (by omega) (by omega); have hcut23 := cut_to (P := Try.prog) 24 3 .i64 Try.underlying24 hi022 (some ⟨go, 0, none⟩) x0_1.length co6 (i : Int) (by omega) (by omega) hroom; have hr23 := Kd.R_take (m := i) HO_0.out (by omega); obtain ⟨w2, hclr, ho2, hg2⟩ := slices_DeleteFunc_StandLoose_1.R_clear (Kd.int .i64) (n := i) (c2 := co6 - i) 24 (.int .i64 0) Try.underlying24 slices_DeleteFunc_StandLoose_1.zero rfl (by intro u hu; simp [Value.cells] at hu; first | (subst hu; rfl) | (rcases hu with rfl | rfl <;> rfl)) (by decide) slices_DeleteFunc_StandLoose_1.M hr23 (m := x0_1.length - i) (by omega) (by omega)
       have hne : ¬ co6 = i := by omega
       have hle : (i : Int) ≤ (x0_1.length : Int) := by omega
       rw [Int.toNat_natCast, if_neg hne] at hcut22; rw [Int.toNat_natCast] at hcut23
       have eo : (some (⟨go, 0, none⟩ : Addr)).map (·.add (i * 1)) = some ⟨go, i * 1, none⟩ := by rw [Option.map_some, add_plain]
       rw [eo] at hcut22; have hszk : Kd.sz (Kd.int .i64) = 1 := rfl; rw [hszk] at hclr; rw [Nat.mul_one] at hclr hcut22; have HO2 := Aside0.mk ho2; have HB2 := Aside0.mk (HB.out.grown hg2 HB.out.size (fun k hk => by injection hk with hk; subst hk; exact gb)); have HK2 := Aside0.mk (Kept.of_grown (S := (fun k_ => P0_ k_)) hg2 HK.out (fun k_ e_ => HO_0.out.1 k_ (by rw [← e_]; rfl))); clear ho2 hr23 hi022 hsz22 hg2 HO_0 HB HK HG gb gl; replace c19 := eq_true c19; replace c20 := eq_true c20; replace hle := eq_true hle; go_wp2; go_ret
       have hlen : (x0_1.take i).length = i := by rw [List.length_take]; omega
       exact ⟨_, rfl, HO2.out, HB2.out, HK2.out⟩
      ·rw [if_neg c20] at H
       exact absurd H (by simp)
     ·rw [if_neg c19] at H
      exact absurd H (by simp)

end Go.Proofs.Ytckhmeadflafaaa.XSl
