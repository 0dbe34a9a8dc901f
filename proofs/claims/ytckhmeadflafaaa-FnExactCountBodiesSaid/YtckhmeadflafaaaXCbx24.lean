/- Functions of the program as plain Lean functions, each with the proof that the machine's call does what it says: written by a program of this session out of the translation. -/
import Derived.Deep.RegionLaw
import Derived.Lib.SliceRun
import Derived.Lib.Hide
import Derived.Test.YtckhmeadflafaaaXCbx0
import Derived.Test.YtckhmeadflafaaaXCbx22
namespace Go.Proofs.Ytckhmeadflafaaa.XCb
open Go.RowKit Go.Proofs.YtckhmeadflafaaaW.PrintWords Go.Proofs.YtckhmeadflafaaaW.PrintLast Go.Proofs.YtckhmeadflafaaaW.PrintMore
attribute [local go_sem] max2_int min2_int max_two min_two max_three min_three max_four min_four   -- for this text's walks alone
set_option linter.unusedVariables false
set_option linter.unusedSimpArgs false

/-! ### slices_CompactFunc_CountBodies_2: function 85, by hand -/
-- NOTKEPT
def rdBd (xs : List (List (S49))) (i : Int) : List (S49) := xs.getD i.toNat []
mutual
def slices_CompactFunc_CountBodies_2.l0 : Nat → List (List (S49)) → Int → Option (List (List (S49)))
 | 0, _, _ => none
 | k + 1, x0, x3 => if x3 < (x0.length : Int) then (if 0 ≤ x3 then (if 0 ≤ (wrap64 (x3 - 1)) then (if (wrap64 (x3 - 1)) < (x0.length : Int) then ((impl_CountBodies_2.f k (rdBd x0 x3) (rdBd x0 (wrap64 (x3 - 1)))).bind fun t => (if t = true then (slices_CompactFunc_CountBodies_2.l1 k x0 x3 (x3 : Int).toNat (x0.length - (x3 : Int).toNat) 1) else (slices_CompactFunc_CountBodies_2.l0 k x0 (wrap64 (x3 + 1))))) else (none)) else (none)) else (none)) else (some x0)
def slices_CompactFunc_CountBodies_2.l1 : Nat → List (List (S49)) → Int → Nat → Nat → Int → Option (List (List (S49)))
 | 0, _, _, _, _, _ => none
 | k + 1, x0, x3, m4, n4, x5 => if x5 < (n4 : Int) then (if 0 ≤ x5 then (if 0 ≤ (wrap64 (x5 - 1)) then (if (wrap64 (x5 - 1)) < (n4 : Int) then ((impl_CountBodies_2.f k (rdBd (x0.drop m4) x5) (rdBd (x0.drop m4) (wrap64 (x5 - 1)))).bind fun t => (if t = true then (slices_CompactFunc_CountBodies_2.l1 k x0 x3 m4 n4 (wrap64 (x5 + 1))) else (if 0 ≤ x3 then (if x3 < (x0.length : Int) then (slices_CompactFunc_CountBodies_2.l1 k (x0.set (x3 : Int).toNat (rdBd (x0.drop m4) x5)) (wrap64 (x3 + 1)) m4 n4 (wrap64 (x5 + 1))) else (none)) else (none)))) else (none)) else (none)) else (none)) else (if 0 ≤ x3 then (if x3 < (x0.length : Int) then (some (x0.take (x3 : Int).toNat)) else (none)) else (none))
end
def slices_CompactFunc_CountBodies_2.f (k : Nat) (l0 : List (List (S49))) : Option (List (List (S49))) := if (l0.length : Int) < 2 then (some l0) else (slices_CompactFunc_CountBodies_2.l0 k l0 1)
theorem slices_CompactFunc_CountBodies_2.mono_l : ∀ k, (∀ y0 y1, LeO (slices_CompactFunc_CountBodies_2.l0 k y0 y1) (slices_CompactFunc_CountBodies_2.l0 (k + 1) y0 y1)) ∧ (∀ y0 y1 y2 y3 y4, LeO (slices_CompactFunc_CountBodies_2.l1 k y0 y1 y2 y3 y4) (slices_CompactFunc_CountBodies_2.l1 (k + 1) y0 y1 y2 y3 y4))
 | 0 => ⟨fun _ _ r h => by simp [slices_CompactFunc_CountBodies_2.l0] at h, fun _ _ _ _ _ r h => by simp [slices_CompactFunc_CountBodies_2.l1] at h⟩
 | k + 1 => by
  obtain ⟨ih0, ih1⟩ := slices_CompactFunc_CountBodies_2.mono_l k; refine ⟨?_, ?_⟩
  ·intro y0 y1
   unfold slices_CompactFunc_CountBodies_2.l0
   repeat' first
   | (with_reducible exact ih0 _ _)
   | (with_reducible exact ih1 _ _ _ _ _)
   | (with_reducible exact impl_CountBodies_2.mono _ _ _)
   | (with_reducible exact LeO.refl _)
   | (with_reducible exact LeO.none _)
   | (with_reducible refine LeO.ite ?_ ?_)
   | (with_reducible refine LeO.bind ?_ (fun _ => ?_))
  ·intro y0 y1 y2 y3 y4
   unfold slices_CompactFunc_CountBodies_2.l1
   repeat' first
   | (with_reducible exact ih0 _ _)
   | (with_reducible exact ih1 _ _ _ _ _)
   | (with_reducible exact impl_CountBodies_2.mono _ _ _)
   | (with_reducible exact LeO.refl _)
   | (with_reducible exact LeO.none _)
   | (with_reducible refine LeO.ite ?_ ?_)
   | (with_reducible refine LeO.bind ?_ (fun _ => ?_))
theorem slices_CompactFunc_CountBodies_2.mono : ∀ a0 k, LeO (slices_CompactFunc_CountBodies_2.f k a0) (slices_CompactFunc_CountBodies_2.f (k + 1) a0) := by
 intro a0 k; obtain ⟨ih0, ih1⟩ := slices_CompactFunc_CountBodies_2.mono_l k
 unfold slices_CompactFunc_CountBodies_2.f
 repeat' first
   | (with_reducible exact ih0 _ _)
   | (with_reducible exact LeO.refl _)
   | (with_reducible refine LeO.ite ?_ ?_)
theorem slices_CompactFunc_CountBodies_2.setCells_blk {g : Nat} {t : TypeId} : ∀ (vs : List Value) (o : Nat) {w : World} {cs : Array Value}, w.heap[g]? = some (.cells cs t (0, 0)) → ∃ cs', (w.setCells g o vs).heap[g]? = some (.cells cs' t (0, 0)) ∧ cs'.size = cs.size ∧ (∀ i, i < o → cs'[i]? = cs[i]?) ∧ w.grownBy (w.setCells g o vs) (some g) := by
 intro vs
 induction vs with
 | nil => intro o w cs h; exact ⟨cs, h, rfl, fun _ _ => rfl, ⟨rfl, rfl, rfl, Nat.le_refl _, fun _ _ _ => rfl⟩⟩
 | cons v r ih =>
  intro o w cs h; have h1 := blk_set h o v; obtain ⟨cs', e1, e2, e3, e4⟩ := ih (o + 1) h1; refine ⟨cs', e1, by rw [e2]; simp, fun i hi => ?_, ?_⟩
  ·rw [e3 i (by omega), Array.getElem?_setIfInBounds_ne (by omega)]
  ·have g1 : w.grownBy (w.setCell ⟨g, o, none⟩ v) (some g) := ⟨(Below.setCell (Below.refl 0 w) (Nat.zero_le _) v).os, (Below.setCell (Below.refl 0 w) (Nat.zero_le _) v).tape, (Below.setCell (Below.refl 0 w) (Nat.zero_le _) v).output, by simp, fun k hk hne => Below.heap_setCell w ⟨g, o, none⟩ v k (fun e => hne (by rw [e]))⟩
   exact World.grownBy.trans g1 e4
/-- The cells behind a row's elements are set to zero: the row stays. -/
theorem slices_CompactFunc_CountBodies_2.N_clear {α : Type} (d : Kd α) (hd : d.sz = 1) {W : World} {base e g n c m c2 : Nat} {xs : List α} {ok : Nat → Prop} (t : TypeId) (z : Value) (ht : Try.prog.underlying t = some (.slice e)) (hv : ∀ w, (zeroValue e).run Try.prog w = .ok z w) (hzs : z.cells.size = 1) (h1 : ∀ u ∈ z.cells, u.oneCell' = true)
  (HO : Kd.N d e W base ok (.slice (some ⟨g, 0, none⟩) n c) xs) (hm : n + m ≤ c) (hm0 : 0 < m) :
  ∃ w1, (∀ ty, (Builtin.clear_ #[t] ty #[.slice (some ⟨g, n, none⟩) m c2]).run Try.prog W = .ok (.tuple #[]) w1) ∧ Kd.N d e w1 base ok (.slice (some ⟨g, 0, none⟩) n c) xs ∧ W.grownBy w1 (some g) := by
 obtain ⟨hown, rows, hrl, ⟨hok, inner, ⟨ho1, ho2⟩, hr⟩, hf⟩ := HO; rw [hd] at ho1 ho2 hr; have hs1 : (Kd.raw 1).sz = 1 := rfl; rw [hs1] at ho1 ho2 hr
 rcases ho2 with ⟨hv', _⟩ | ⟨g', cap', cur, hv', hb, hh, h2, hcm, hcs, htake⟩
 ·cases hv'
 injection hv' with ha hn hc
 injection ha with ha
 injection ha with hg
 subst hg; subst hc; subst hn
 have hzl : (Builtin.zeroCells z.cells m).toList.length = m := by simp [Builtin.zeroCells, hzs]
 obtain ⟨cs', e1, e2, e3, e4⟩ := slices_CompactFunc_CountBodies_2.setCells_blk (Builtin.zeroCells z.cells m).toList rows.length hh; rw [Nat.mul_one] at hcs htake
 have hcell : ∀ j, j < m → (W.cell? ⟨g, rows.length + 0 + j, none⟩).isSome = true := by
  intro j hj; rw [blk_cell hh, Array.getElem?_eq_getElem (by rw [hcs]; omega)]; rfl
 refine ⟨W.setCells g rows.length (Builtin.zeroCells z.cells m).toList, fun ty => ?_, ⟨hown, rows, hrl, ⟨hok, inner, ?_⟩, fun j x c hx hc => Kd.FK_step (hf j x c hx hc) (fun k hk hlt => e4.block k hlt (fun q => hk.2 q))⟩, e4⟩
 ·have hst := run_storeCells_cells (P := Try.prog) g rows.length (Builtin.zeroCells z.cells m).toList 0 W (by rw [hzl]; exact hcell) (by intro j _; exact blk_frozen hh _) (by
   intro v hv2; simp only [Builtin.zeroCells, Array.toList_map, List.mem_map] at hv2; obtain ⟨i, hi, rfl⟩ := hv2; have hlt : i % z.cells.size < z.cells.size := Nat.mod_lt _ (by omega); rw [getElem!_pos z.cells _ hlt]
   exact h1 _ (Array.getElem_mem hlt))
  simp only [Nat.add_zero] at hst; obtain ⟨m', rfl⟩ : ∃ m', m = m' + 1 := ⟨m - 1, by omega⟩
  simp [Builtin.clear_, run_underlying ht, hv, hst]
 ·rw [hd]
  refine ⟨⟨ho1, Or.inr ⟨g, c, cs', rfl, hb, e1, h2, hcm, by rw [e2, hs1, Nat.mul_one]; exact hcs, ?_⟩⟩, hr⟩; rw [hs1, Nat.mul_one, ← htake]
  apply List.ext_getElem?
  intro i
  by_cases hi : i < rows.length
  ·rw [List.getElem?_take_of_lt hi, List.getElem?_take_of_lt hi, Array.getElem?_toList, Array.getElem?_toList, e3 i hi]
  ·rw [List.getElem?_take_eq_none (by omega), List.getElem?_take_eq_none (by omega)]
theorem slices_CompactFunc_CountBodies_2.zero (w : World) : (zeroValue 22).run Try.prog w = .ok (.slice none 0 0) w := by kernel_rfl
/-- Element i: its one cell, the row it leads to, and that row however the world draws. -/
theorem slices_CompactFunc_CountBodies_2.at {W : World} {base g n cap : Nat} {ok : Nat → Prop} {xs : List (List (S49))} (h : Kd.N (Kd.slice 49 k49) 22 W base ok (.slice (some ⟨g, 0, none⟩) n cap) xs) (i : Int) (h0 : 0 ≤ i) (h1 : i < n) :
  ∃ A c, W.cell? ⟨g, i.toNat, none⟩ = some (.slice A (rdBd xs i).length c) ∧ W.frozen? ⟨g, i.toNat, none⟩ = false ∧ (rdBd xs i).length ≤ c ∧ Kd.C k49 W A (rdBd xs i).length (rdBd xs i) ∧ Kd.FK (Kd.slice 49 k49) W (fun k => ok k ∧ k ≠ g) (rdBd xs i) [.slice A (rdBd xs i).length c] := by
 obtain ⟨cs, hcl, hFK, hcc, hfr⟩ := Kd.N_elem h [] i h0 h1; obtain ⟨A, c, rfl, hl, hF⟩ := Kd.FK_slice_open hFK; have hs : (Kd.slice 49 k49).sz = 1 := rfl; have q := hcc 0 _ rfl; have q2 := hfr 0; rw [hs, Nat.mul_one, Nat.add_zero] at q q2; exact ⟨A, c, q, q2, hl, Kd.F_now hF, hFK⟩
theorem slices_CompactFunc_CountBodies_2.put {W : World} {base g n cap : Nat} {ok : Nat → Prop} {xs : List (List (S49))} (h : Kd.N (Kd.slice 49 k49) 22 W base ok (.slice (some ⟨g, 0, none⟩) n cap) xs) (i : Int) (h0 : 0 ≤ i) (h1 : i < n) {x : List (S49)} {u : Value} (hx : Kd.FK (Kd.slice 49 k49) W (fun k => ok k ∧ k ≠ g) x [u]) :
  Kd.N (Kd.slice 49 k49) 22 (W.setCell ⟨g, i.toNat, none⟩ u) base ok (.slice (some ⟨g, 0, none⟩) n cap) (xs.set i.toNat x) ∧ W.grownBy (W.setCell ⟨g, i.toNat, none⟩ u) (some g) := by
 obtain ⟨cs, hcl, hFK, hcc, hfr⟩ := Kd.N_elem h [] i h0 h1; obtain ⟨A, c, rfl, hl, hF⟩ := Kd.FK_slice_open hFK; have hs : (Kd.slice 49 k49).sz = 1 := rfl; have q := Kd.N_seg h i h0 h1 (seg := [u]) (j := 0) hcl hcc (Nat.le_refl 1) (x' := x) (okp := fun k => ok k ∧ k ≠ g) hx (fun _ hk => hk); rw [hs, Nat.mul_one, Nat.add_zero] at q; exact q
set_option maxHeartbeats 8000000 in
set_option maxRecDepth 100000 in
theorem slices_CompactFunc_CountBodies_2.calls (k : Nat) (ok : Nat → Prop) (v : Value) (l0 r : List (List (S49))) (w0 w : World) (hB : Below w0.heap.size w0 w) (ho : Kd.N (Kd.slice 49 k49) 22 w w0.heap.size ok v l0) (h : slices_CompactFunc_CountBodies_2.f k l0 = some r) :
  Calls Try.prog 85 #[v, .func (.func 86) #[] #[]] w fun e w' => ∃ v0_ : Value, e = .returned (v0_) ∧ Kd.N (Kd.slice 49 k49) 22 w' w0.heap.size ok v0_ r ∧ Below w0.heap.size w0 w' := by
 have HO := ak ho; have HB := ak hB; clear ho hB; have H : (if (l0.length : Int) < 2 then (some l0) else (slices_CompactFunc_CountBodies_2.l0 k l0 1)) = some r := h; clear h
 by_cases c2 : (l0.length : Int) < 2
 ·rw [if_pos c2] at H
  have c2b0 := decide_eq_true c2; have c2b1 : decide (l0.length < 2) = true := decide_eq_true (by omega); clear c2; obtain rfl := Option.some.inj H; obtain ⟨Ao3, co3, eo3⟩ := Kd.N_slice HO.out; subst eo3
  go_enter Try.func85, Try.ntmps85
  go_wp2
  repeat (go_quiet (fail); try go_wp2)
  go_ret; exact ⟨_, rfl, (by (with_reducible repeat (first | apply Kd.N_alloc | apply Kd.N_drewN | apply Kd.N_drew)); exact HO.out), bq⟩
 ·rw [if_neg c2] at H
  have c2b0 := decide_eq_false c2; have c2b1 : decide (l0.length < 2) = false := decide_eq_false (by omega); obtain ⟨g, cap, rfl, hgb, hgl, hgc⟩ := Kd.N_form HO.out (by omega); have hroom := (Kd.N_reads' HO.out).2.1; have HG := ak hgb; have HR := ak hroom; clear c2 hgb hgl hgc hroom; have H' := ak H; clear H
  go_enter Try.func85, Try.ntmps85
  go_wp2
  repeat (go_quiet (fail); try go_wp2)
  go_loopg [5] k (fun kq v5 w' => ∃ (x3_1 : Int), v5 = .int .i64 x3_1 ∧ Aside0 (slices_CompactFunc_CountBodies_2.l0 kq l0 x3_1 = some r) ∧ Aside0 (kq ≤ k) ∧ Aside0 (Kd.N (Kd.slice 49 k49) 22 w' w0.heap.size ok (.slice (some ⟨g, 0, none⟩) l0.length cap) l0) ∧ Aside0 (Below w0.heap.size w0 w'))
  case atStart => exact ⟨(1), sq, H', ⟨Nat.le_refl _⟩, ⟨(by (with_reducible repeat (first | apply Kd.N_alloc | apply Kd.N_drewN | apply Kd.N_drew)); exact HO.out)⟩, ⟨bq⟩⟩
  case round =>
   clear H' HO HB; obtain ⟨x3_1, rfl, HA, HK1, HO, HB⟩ := hrel
   cases gk with
   | zero => exact absurd HA.out (by simp [slices_CompactFunc_CountBodies_2.l0])
   | succ k1 =>
    have H := HA.out; clear HA; simp only [slices_CompactFunc_CountBodies_2.l0] at H
    by_cases c5 : x3_1 < (l0.length : Int)
    ·rw [if_pos c5] at H
     have c5b0 := decide_eq_true c5
     by_cases c6 : 0 ≤ x3_1
     ·rw [if_pos c6] at H
      have c6b0 := decide_eq_true c6; obtain ⟨ji7, hji7⟩ : ∃ j_ : Int, (wrap64 (x3_1 - 1)) = j_ := ⟨_, rfl⟩; rw [hji7] at H; have hji7w : (IntKind.i64.wrap (x3_1 - 1)) = ji7 := (i64_w _).trans hji7
      by_cases c8 : 0 ≤ (ji7)
      ·rw [if_pos c8] at H
       by_cases c9 : (ji7) < (l0.length : Int)
       ·rw [if_pos c9] at H
        obtain ⟨t, A100, H⟩ := Option.bind_eq_some_iff.mp H
        (try dsimp only at H)
        have A10 := ak A100; clear A100; obtain ⟨A1, ca1, hx1, _, hl1, hC1, _⟩ := slices_CompactFunc_CountBodies_2.at HO.out x3_1 c6 c5; obtain ⟨A2, ca2, hx2, _, hl2, hC2, _⟩ := slices_CompactFunc_CountBodies_2.at HO.out ji7 c8 c9; have p1 := eq_true c6; have q1 := eq_true c5; have p2 := eq_true c8; have q2 := eq_true c9
        by_cases c10 : t = true
        ·subst c10
         rw [if_pos rfl] at H
         have hpos : 0 < x3_1 := by
          have e : wrap64 (x3_1 - 1) = ji7 := hji7
          unfold wrap64 at e
          omega
         obtain ⟨m13, hm13⟩ : ∃ m_ : Nat, m_ = (x3_1 : Int).toNat := ⟨_, rfl⟩; obtain ⟨n13, hn13⟩ : ∃ n_ : Nat, n_ = l0.length - m13 := ⟨_, rfl⟩
         have hmx : (m13 : Int) = x3_1 := by omega
         rw [← hm13, ← hn13] at H
         have hml : m13 < l0.length := by omega
         have H' := ak H; clear H; obtain ⟨i013, hi013, _, hsz13, _⟩ := info_parts info22
         have hq13 : (x3_1 : Int) ≤ (l0.length : Int) := by omega
         have hcut13 := cut_from (P := Try.prog) 68 22 .i64 Try.underlying68 hi013 1 hsz13 (some ⟨g, 0, none⟩) l0.length cap x3_1 c6 hq13; obtain ⟨c13, hc13⟩ : ∃ c1, c1 = cap - m13 := ⟨_, rfl⟩; rw [← hm13, ← hn13, ← hc13, if_neg (by have := HR.out; omega), Option.map_some, add_plain, Nat.mul_one] at hcut13; have KM := ak hml; have KN := ak hn13; clear hi013 hsz13 hc13 hm13 hn13 hmx c5 c6 c8 c9 hpos hml; have hq13t := eq_true hq13; clear hq13
         go_wp2_with (first | (go_at_call 86; (with_reducible refine (impl_CountBodies_2.calls k1 _ _ (rdBd l0 x3_1) _ _ (rdBd l0 ji7) true _ ?side1 ?side2 ?side3 ?side4 A10.out).mono ?_); (case side1 => exact cq hC1); (case side2 => exact hl1); (case side3 => exact cq hC2); (case side4 => exact hl2); rintro e w' ⟨rfl, ⟨nd, rfl⟩⟩; (try first | exact ⟨rfl, _, World.drewN_drewN _ _ _⟩ | exact ⟨rfl, _, Eq.trans (World.drewN_drewN _ _ _) (congrArg (World.drewN _) (Nat.add_assoc _ _ _))⟩)))
         repeat (go_quiet (first | (go_at_call 86; (with_reducible refine (impl_CountBodies_2.calls k1 _ _ (rdBd l0 x3_1) _ _ (rdBd l0 ji7) true _ ?side1 ?side2 ?side3 ?side4 A10.out).mono ?_); (case side1 => exact cq hC1); (case side2 => exact hl1); (case side3 => exact cq hC2); (case side4 => exact hl2); rintro e w' ⟨rfl, ⟨nd, rfl⟩⟩; (try first | exact ⟨rfl, _, World.drewN_drewN _ _ _⟩ | exact ⟨rfl, _, Eq.trans (World.drewN_drewN _ _ _) (congrArg (World.drewN _) (Nat.add_assoc _ _ _))⟩))); try go_wp2_with (first | (go_at_call 86; (with_reducible refine (impl_CountBodies_2.calls k1 _ _ (rdBd l0 x3_1) _ _ (rdBd l0 ji7) true _ ?side1 ?side2 ?side3 ?side4 A10.out).mono ?_); (case side1 => exact cq hC1); (case side2 => exact hl1); (case side3 => exact cq hC2); (case side4 => exact hl2); rintro e w' ⟨rfl, ⟨nd, rfl⟩⟩; (try first | exact ⟨rfl, _, World.drewN_drewN _ _ _⟩ | exact ⟨rfl, _, Eq.trans (World.drewN_drewN _ _ _) (congrArg (World.drewN _) (Nat.add_assoc _ _ _))⟩))))
         clear hx1 hx2 hC1 hC2 hl1 hl2
         go_loopg [5, 7] k1 (fun kq v5 v7 w' => ∃ (x0_2 : List (List (S49))) (x3_2 : Int) (x5_2 : Int), v5 = .int .i64 x3_2 ∧ v7 = .int .i64 x5_2 ∧ Aside0 (slices_CompactFunc_CountBodies_2.l1 kq x0_2 x3_2 m13 n13 x5_2 = some r) ∧ Aside0 (kq ≤ k1) ∧ Aside0 (Kd.N (Kd.slice 49 k49) 22 w' w0.heap.size ok (.slice (some ⟨g, 0, none⟩) l0.length cap) x0_2) ∧ Aside0 (Below w0.heap.size w0 w'))
         case atStart => exact ⟨(l0), (x3_1), (1), sq, sq, H', ⟨Nat.le_refl _⟩, ⟨(by (with_reducible repeat (first | apply Kd.N_alloc | apply Kd.N_drewN | apply Kd.N_drew)); exact HO.out)⟩, ⟨bq⟩⟩
         case round =>
          clear H' HO HB c2b0 c2b1 c5b0 c6b0 p1 q1 p2 q2 hq13t; obtain ⟨x0_2, x3_2, x5_2, rfl, rfl, HA, HK2, HO, HB⟩ := hrel; have HL := ak (Kd.N_reads' HO.out).1
          cases gk with
          | zero => exact absurd HA.out (by simp [slices_CompactFunc_CountBodies_2.l1])
          | succ k2 =>
           have H := HA.out; clear HA; simp only [slices_CompactFunc_CountBodies_2.l1] at H
           by_cases c14 : x5_2 < (n13 : Int)
           ·rw [if_pos c14] at H
            have c14b0 := decide_eq_true c14
            by_cases c15 : 0 ≤ x5_2
            ·rw [if_pos c15] at H
             have c15b0 := decide_eq_true c15; obtain ⟨ji16, hji16⟩ : ∃ j_ : Int, (wrap64 (x5_2 - 1)) = j_ := ⟨_, rfl⟩; rw [hji16] at H; have hji16w : (IntKind.i64.wrap (x5_2 - 1)) = ji16 := (i64_w _).trans hji16
             by_cases c17 : 0 ≤ (ji16)
             ·rw [if_pos c17] at H
              by_cases c18 : (ji16) < (n13 : Int)
              ·rw [if_pos c18] at H
               obtain ⟨t2, A190, H⟩ := Option.bind_eq_some_iff.mp H
               (try dsimp only at H)
               have A19 := ak A190; clear A190
               have e15 : rdBd (x0_2.drop m13) x5_2 = rdBd x0_2 ((m13 : Int) + x5_2) := by unfold rdBd; rw [List.getD_eq_getElem?_getD, List.getD_eq_getElem?_getD, List.getElem?_drop, show ((m13 : Int) + x5_2).toNat = m13 + x5_2.toNat from by omega]
               have e16 : rdBd (x0_2.drop m13) ji16 = rdBd x0_2 ((m13 : Int) + ji16) := by unfold rdBd; rw [List.getD_eq_getElem?_getD, List.getD_eq_getElem?_getD, List.getElem?_drop, show ((m13 : Int) + ji16).toNat = m13 + ji16.toNat from by omega]
               obtain ⟨A1, ca1, hx1, hf1, hl1, hC1, hK1_⟩ := slices_CompactFunc_CountBodies_2.at HO.out ((m13 : Int) + x5_2) (by omega) (by have := KM.out; have := KN.out; omega); obtain ⟨A2, ca2, hx2, hf2, hl2, hC2, _⟩ := slices_CompactFunc_CountBodies_2.at HO.out ((m13 : Int) + ji16) (by omega) (by have := KM.out; have := KN.out; omega); rw [show ((m13 : Int) + x5_2).toNat = m13 + x5_2.toNat from by omega] at hx1 hf1; rw [show ((m13 : Int) + ji16).toNat = m13 + ji16.toNat from by omega] at hx2 hf2; rw [← e15] at hx1 hl1 hC1 hK1_; rw [← e16] at hx2 hl2 hC2; clear hf1 hf2 e15 e16; have p1 := eq_true c15; have q1 := eq_true c14; have p2 := eq_true c17; have q2 := eq_true c18
               by_cases c19 : t2 = true
               ·subst c19
                rw [if_pos rfl] at H; have H' := ak H; clear H c14 c15 c17 c18 hK1_
                go_wp2_with (first | (go_at_call 86; (with_reducible refine (impl_CountBodies_2.calls k2 _ _ (rdBd (x0_2.drop m13) x5_2) _ _ (rdBd (x0_2.drop m13) ji16) true _ ?side1 ?side2 ?side3 ?side4 A19.out).mono ?_); (case side1 => exact cq hC1); (case side2 => exact hl1); (case side3 => exact cq hC2); (case side4 => exact hl2); rintro e w' ⟨rfl, ⟨nd, rfl⟩⟩; (try first | exact ⟨rfl, _, World.drewN_drewN _ _ _⟩ | exact ⟨rfl, _, Eq.trans (World.drewN_drewN _ _ _) (congrArg (World.drewN _) (Nat.add_assoc _ _ _))⟩)))
                repeat (go_quiet (first | (go_at_call 86; (with_reducible refine (impl_CountBodies_2.calls k2 _ _ (rdBd (x0_2.drop m13) x5_2) _ _ (rdBd (x0_2.drop m13) ji16) true _ ?side1 ?side2 ?side3 ?side4 A19.out).mono ?_); (case side1 => exact cq hC1); (case side2 => exact hl1); (case side3 => exact cq hC2); (case side4 => exact hl2); rintro e w' ⟨rfl, ⟨nd, rfl⟩⟩; (try first | exact ⟨rfl, _, World.drewN_drewN _ _ _⟩ | exact ⟨rfl, _, Eq.trans (World.drewN_drewN _ _ _) (congrArg (World.drewN _) (Nat.add_assoc _ _ _))⟩))); try go_wp2_with (first | (go_at_call 86; (with_reducible refine (impl_CountBodies_2.calls k2 _ _ (rdBd (x0_2.drop m13) x5_2) _ _ (rdBd (x0_2.drop m13) ji16) true _ ?side1 ?side2 ?side3 ?side4 A19.out).mono ?_); (case side1 => exact cq hC1); (case side2 => exact hl1); (case side3 => exact cq hC2); (case side4 => exact hl2); rintro e w' ⟨rfl, ⟨nd, rfl⟩⟩; (try first | exact ⟨rfl, _, World.drewN_drewN _ _ _⟩ | exact ⟨rfl, _, Eq.trans (World.drewN_drewN _ _ _) (congrArg (World.drewN _) (Nat.add_assoc _ _ _))⟩))))
                go_roundg k2
                case measure => have := HK1.out; have := HK2.out; omega
                case rel => exact ⟨(x0_2), (x3_2), (wrap64 (x5_2 + 1)), sq, sq, H', ⟨by have := HK1.out; have := HK2.out; omega⟩, ⟨(by (with_reducible repeat (first | apply Kd.N_alloc | apply Kd.N_drewN | apply Kd.N_drew)); exact HO.out)⟩, ⟨bq⟩⟩
               ·replace c19 := Bool.eq_false_iff.mpr c19
                subst c19; rw [if_neg (show ¬ (false = true) by decide)] at H
                by_cases c20 : 0 ≤ x3_2
                ·rw [if_pos c20] at H
                 by_cases c21 : x3_2 < (x0_2.length : Int)
                 ·rw [if_pos c21] at H
                  have c21' : x3_2 < (l0.length : Int) := by have := HL.out; omega
                  obtain ⟨y300, hy300⟩ : ∃ y_ : List (List (S49)), y_ = (x0_2.set (x3_2 : Int).toNat (rdBd (x0_2.drop m13) x5_2)) := ⟨_, rfl⟩; rw [← hy300] at H; have Ny300 := ak hy300; have H' := ak H; obtain ⟨A3, ca3, hx3, hf3, _, _, _⟩ := slices_CompactFunc_CountBodies_2.at HO.out x3_2 c20 c21'; have HP := slices_CompactFunc_CountBodies_2.put HO.out x3_2 c20 c21' hK1_; have p3 := eq_true c20; have q3 := eq_true c21'; clear H hy300 c14 c15 c17 c18 c20 c21 c21'
                  go_wp2_with (first | (go_at_call 86; (with_reducible refine (impl_CountBodies_2.calls k2 _ _ (rdBd (x0_2.drop m13) x5_2) _ _ (rdBd (x0_2.drop m13) ji16) false _ ?side1 ?side2 ?side3 ?side4 A19.out).mono ?_); (case side1 => exact cq hC1); (case side2 => exact hl1); (case side3 => exact cq hC2); (case side4 => exact hl2); rintro e w' ⟨rfl, ⟨nd, rfl⟩⟩; (try first | exact ⟨rfl, _, World.drewN_drewN _ _ _⟩ | exact ⟨rfl, _, Eq.trans (World.drewN_drewN _ _ _) (congrArg (World.drewN _) (Nat.add_assoc _ _ _))⟩)))
                  repeat (go_quiet (first | (go_at_call 86; (with_reducible refine (impl_CountBodies_2.calls k2 _ _ (rdBd (x0_2.drop m13) x5_2) _ _ (rdBd (x0_2.drop m13) ji16) false _ ?side1 ?side2 ?side3 ?side4 A19.out).mono ?_); (case side1 => exact cq hC1); (case side2 => exact hl1); (case side3 => exact cq hC2); (case side4 => exact hl2); rintro e w' ⟨rfl, ⟨nd, rfl⟩⟩; (try first | exact ⟨rfl, _, World.drewN_drewN _ _ _⟩ | exact ⟨rfl, _, Eq.trans (World.drewN_drewN _ _ _) (congrArg (World.drewN _) (Nat.add_assoc _ _ _))⟩))); try go_wp2_with (first | (go_at_call 86; (with_reducible refine (impl_CountBodies_2.calls k2 _ _ (rdBd (x0_2.drop m13) x5_2) _ _ (rdBd (x0_2.drop m13) ji16) false _ ?side1 ?side2 ?side3 ?side4 A19.out).mono ?_); (case side1 => exact cq hC1); (case side2 => exact hl1); (case side3 => exact cq hC2); (case side4 => exact hl2); rintro e w' ⟨rfl, ⟨nd, rfl⟩⟩; (try first | exact ⟨rfl, _, World.drewN_drewN _ _ _⟩ | exact ⟨rfl, _, Eq.trans (World.drewN_drewN _ _ _) (congrArg (World.drewN _) (Nat.add_assoc _ _ _))⟩))))
                  go_roundg k2
                  case measure => have := HK1.out; have := HK2.out; omega
                  case rel => exact ⟨(y300), (wrap64 (x3_2 + 1)), (wrap64 (x5_2 + 1)), sq, sq, H', ⟨by have := HK1.out; have := HK2.out; omega⟩, ⟨by rw [Ny300.out]; exact Kd.N_step HP.1 (fun _ _ _ => rfl)⟩, ⟨by have h_ := HB.out.grown HP.2 HB.out.size (fun k hk => by injection hk with hk; subst hk; exact HG.out); exact ⟨h_.os, h_.tape, h_.output, h_.size, h_.block⟩⟩⟩
                 ·rw [if_neg c21] at H
                  exact absurd H (by simp)
                ·rw [if_neg c20] at H
                 exact absurd H (by simp)
              ·rw [if_neg c18] at H
               exact absurd H (by simp)
             ·rw [if_neg c17] at H
              exact absurd H (by simp)
            ·rw [if_neg c15] at H
             exact absurd H (by simp)
           ·rw [if_neg c14] at H
            have c14b0 := decide_eq_false c14; clear c14
            by_cases c25 : 0 ≤ x3_2
            ·rw [if_pos c25] at H
             by_cases c26 : x3_2 < (x0_2.length : Int)
             ·rw [if_pos c26] at H
              obtain ⟨i, rfl⟩ := Int.eq_ofNat_of_zero_le c25
              have hi : i < l0.length := by have := HL.out; omega
              rw [Int.toNat_natCast] at H; obtain rfl := Option.some.inj H; clear H; have hroom := HR.out; obtain ⟨i022, hi022, _, hsz22, _⟩ := info_parts info22; have hcut22 := cut_from (P := Try.prog) 68 22 .i64 Try.underlying68 hi022 1 hsz22 (some ⟨g, 0, none⟩) l0.length cap (i : Int) (by omega) (by omega); have hcut23 := cut_to (P := Try.prog) 68 22 .i64 Try.underlying68 hi022 (some ⟨g, 0, none⟩) l0.length cap (i : Int) (by omega) (by omega) hroom; have hr23 := Kd.N_take (m := i) HO.out (by have := HL.out; omega); obtain ⟨w2, hclr, ho2, hg2⟩ := slices_CompactFunc_CountBodies_2.N_clear (Kd.slice 49 k49) rfl (n := i) (c2 := cap - i) 68 (.slice none 0 0) Try.underlying68 slices_CompactFunc_CountBodies_2.zero rfl (by intro u hu; simp [Value.cells] at hu; rw [hu]; rfl) hr23 (m := l0.length - i) (by omega) (by omega)
              have hne : ¬ cap = i := by omega
              have hle : (i : Int) ≤ (l0.length : Int) := by omega
              rw [Int.toNat_natCast, if_neg hne, Option.map_some, add_plain, Nat.mul_one] at hcut22; rw [Int.toNat_natCast] at hcut23; have HO2 := ak ho2; have HB2 := ak (HB.out.grown hg2 HB.out.size (fun k hk => by injection hk with hk; subst hk; exact HG.out)); clear ho2 hr23 hi022 hsz22 hg2 HO HB; replace c25 := eq_true c25; replace hle := eq_true hle; go_wp2; go_ret; exact ⟨_, rfl, HO2.out, HB2.out⟩
             ·rw [if_neg c26] at H
              exact absurd H (by simp)
            ·rw [if_neg c25] at H
             exact absurd H (by simp)
        ·replace c10 := Bool.eq_false_iff.mpr c10
         subst c10; rw [if_neg (show ¬ (false = true) by decide)] at H; have H' := ak H; clear H c5 c6 c8 c9
         go_wp2_with (first | (go_at_call 86; (with_reducible refine (impl_CountBodies_2.calls k1 _ _ (rdBd l0 x3_1) _ _ (rdBd l0 ji7) false _ ?side1 ?side2 ?side3 ?side4 A10.out).mono ?_); (case side1 => exact cq hC1); (case side2 => exact hl1); (case side3 => exact cq hC2); (case side4 => exact hl2); rintro e w' ⟨rfl, ⟨nd, rfl⟩⟩; (try first | exact ⟨rfl, _, World.drewN_drewN _ _ _⟩ | exact ⟨rfl, _, Eq.trans (World.drewN_drewN _ _ _) (congrArg (World.drewN _) (Nat.add_assoc _ _ _))⟩)))
         repeat (go_quiet (first | (go_at_call 86; (with_reducible refine (impl_CountBodies_2.calls k1 _ _ (rdBd l0 x3_1) _ _ (rdBd l0 ji7) false _ ?side1 ?side2 ?side3 ?side4 A10.out).mono ?_); (case side1 => exact cq hC1); (case side2 => exact hl1); (case side3 => exact cq hC2); (case side4 => exact hl2); rintro e w' ⟨rfl, ⟨nd, rfl⟩⟩; (try first | exact ⟨rfl, _, World.drewN_drewN _ _ _⟩ | exact ⟨rfl, _, Eq.trans (World.drewN_drewN _ _ _) (congrArg (World.drewN _) (Nat.add_assoc _ _ _))⟩))); try go_wp2_with (first | (go_at_call 86; (with_reducible refine (impl_CountBodies_2.calls k1 _ _ (rdBd l0 x3_1) _ _ (rdBd l0 ji7) false _ ?side1 ?side2 ?side3 ?side4 A10.out).mono ?_); (case side1 => exact cq hC1); (case side2 => exact hl1); (case side3 => exact cq hC2); (case side4 => exact hl2); rintro e w' ⟨rfl, ⟨nd, rfl⟩⟩; (try first | exact ⟨rfl, _, World.drewN_drewN _ _ _⟩ | exact ⟨rfl, _, Eq.trans (World.drewN_drewN _ _ _) (congrArg (World.drewN _) (Nat.add_assoc _ _ _))⟩))))
         go_roundg k1
         case measure => have := HK1.out; omega
         case rel => exact ⟨(wrap64 (x3_1 + 1)), sq, H', ⟨by have := HK1.out; omega⟩, ⟨(by (with_reducible repeat (first | apply Kd.N_alloc | apply Kd.N_drewN | apply Kd.N_drew)); exact HO.out)⟩, ⟨bq⟩⟩
       ·rw [if_neg c9] at H
        exact absurd H (by simp)
      ·rw [if_neg c8] at H
       exact absurd H (by simp)
     ·rw [if_neg c6] at H
      exact absurd H (by simp)
    ·rw [if_neg c5] at H
     have c5b0 := decide_eq_false c5; clear c5; obtain rfl := Option.some.inj H; go_wp2
     repeat (go_quiet (fail); try go_wp2)
     go_ret; exact ⟨_, rfl, (by (with_reducible repeat (first | apply Kd.N_alloc | apply Kd.N_drewN | apply Kd.N_drew)); exact HO.out), bq⟩

end Go.Proofs.Ytckhmeadflafaaa.XCb
