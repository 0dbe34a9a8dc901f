/- Functions of the program as plain Lean functions, each with the proof that the machine's call does what it says: written by a program of this session out of the translation. -/
import Derived.Shelf.SlSortCmp.WholeK
import Derived.Sort.AssemblyPlain
import Derived.Test.YtckhmeadflafaaaSortLay
import Derived.Test.YtckhmeadflafaaaXFbx0
import Derived.Test.YtckhmeadflafaaaXFbx8
import Derived.Test.YtckhmeadflafaaaXFbx9
import Derived.Test.YtckhmeadflafaaaXFbx11
import Derived.Test.YtckhmeadflafaaaXFbx12
import Derived.Test.YtckhmeadflafaaaXFbx14
import Derived.Test.YtckhmeadflafaaaXFbx15
namespace Go.Proofs.Ytckhmeadflafaaa.XFb
open Go.RowKit Go.Proofs.YtckhmeadflafaaaW.PrintWords Go.Proofs.YtckhmeadflafaaaW.PrintLast Go.Proofs.YtckhmeadflafaaaW.PrintMore
attribute [local go_sem] max2_int min2_int max_two min_two max_three min_three max_four min_four   -- for this text's walks alone
set_option linter.unusedVariables false
set_option linter.unusedSimpArgs false

/-! ### impl_GroundOf: function 41 -/
def impl_GroundOf.f (k : Nat) (l0 : List (S49)) : Option (Int × Int × Bool) := (impl_IsBody.f k l0).bind fun t368 => (if t368 = true then ((impl_groundOf.f k l0).bind fun bt369 => (some (bt369.1, bt369.2, true))) else (some (0, 0, false)))
theorem impl_GroundOf.mono : ∀ a0 k, LeO (impl_GroundOf.f k a0) (impl_GroundOf.f (k + 1) a0) := by
 intro a0 k
 unfold impl_GroundOf.f
 repeat' first
   | (with_reducible exact impl_IsBody.mono _ _)
   | (with_reducible exact impl_groundOf.mono _ _)
   | (with_reducible exact LeO.refl _)
   | (with_reducible exact LeO.none _)
   | (with_reducible refine LeO.ite ?_ ?_)
   | (with_reducible refine LeO.bind ?_ (fun _ => ?_))
set_option maxHeartbeats 8000000 in
set_option maxRecDepth 100000 in
theorem impl_GroundOf.calls (k : Nat) (A0 : Option Addr) (c0 : Nat) (l0 : List (S49)) (r1 : Int) (r2 : Int) (r3 : Bool) (w : World) (hr0 : Kd.C k49 w A0 l0.length l0) (hc0 : l0.length ≤ c0) (h : impl_GroundOf.f k l0 = some (r1, r2, r3)) :
  Calls Try.prog 41 #[.slice A0 l0.length c0] w fun e w' => e = .returned (.tuple #[.int .i64 r1, .int .i64 r2, .bool r3]) ∧ Below w.heap.size w w' := by
 have HR0 := ak hr0; have HC0 := ak hc0; clear hr0 hc0; have HB := ak (Below.refl w.heap.size w); have H : ((impl_IsBody.f k l0).bind fun t368 => (if t368 = true then ((impl_groundOf.f k l0).bind fun bt369 => (some (bt369.1, bt369.2, true))) else (some (0, 0, false)))) = some (r1, r2, r3) := h; clear h; obtain ⟨t368, A20, H⟩ := Option.bind_eq_some_iff.mp H
 have A2 := ak A20; clear A20
 by_cases c3 : t368 = true
 ·subst c3
  rw [if_pos rfl] at H; obtain ⟨⟨t369, t370⟩, A40, H⟩ := Option.bind_eq_some_iff.mp H
  (try dsimp only at H)
  have A4 := ak A40; clear A40; simp only [Option.some.injEq, Prod.mk.injEq] at H; obtain ⟨rfl, rfl, rfl⟩ := H
  go_enter Try.func41, Try.ntmps41
  go_wp2_with (first | ((with_reducible refine gate_callee (f := 34) rfl ?_); refine goesL_ (some 8) rfl rfl Try.func34 (by kernel_rfl) rfl #[.slice A0 l0.length c0] rfl aq ?_; (with_reducible refine (impl_IsBody.calls k _ _ l0 true _ ?side1 ?side2 A2.out).mono ?_); (case side1 => exact cq HR0.out); (case side2 => exact HC0.out); rintro e w5 ⟨rfl, hb⟩; refine ⟨_, rfl, ?_⟩; have n0_ := ak (below_step bq hb); clear HB; have HB := n0_; clear n0_; (try clear hb)) | ((with_reducible refine gate_callee (f := 100) rfl ?_); refine goesL_ (some 12) rfl rfl Try.func100 (by kernel_rfl) rfl #[.slice A0 l0.length c0] rfl aq ?_; (with_reducible refine (impl_groundOf.calls k _ _ l0 t369 t370 _ ?side1 ?side2 A4.out).mono ?_); (case side1 => exact cq (Kd.C_below HR0.out HB.out)); (case side2 => exact HC0.out); rintro e w6 ⟨rfl, hb⟩; refine ⟨_, rfl, ?_⟩; have n0_ := ak (below_step bq hb); clear HB; have HB := n0_; clear n0_; (try clear hb)))
  go_ret3
  exact ⟨eq_, bq⟩
 ·replace c3 := Bool.eq_false_iff.mpr c3
  subst c3; rw [if_neg (show ¬ (false = true) by decide)] at H; simp only [Option.some.injEq, Prod.mk.injEq] at H; obtain ⟨rfl, rfl, rfl⟩ := H
  go_enter Try.func41, Try.ntmps41
  go_wp2_with (((with_reducible refine gate_callee (f := 34) rfl ?_); refine goesL_ (some 8) rfl rfl Try.func34 (by kernel_rfl) rfl #[.slice A0 l0.length c0] rfl aq ?_; (with_reducible refine (impl_IsBody.calls k _ _ l0 false _ ?side1 ?side2 A2.out).mono ?_); (case side1 => exact cq HR0.out); (case side2 => exact HC0.out); rintro e w7 ⟨rfl, hb⟩; refine ⟨_, rfl, ?_⟩; have n0_ := ak (below_step bq hb); clear HB; have HB := n0_; clear n0_; (try clear hb)))
  go_ret3
  exact ⟨eq_, bq⟩

/-! ### spec_GroundOf: function 42 -/
def spec_GroundOf.f (k : Nat) (l0 : List (S49)) : Option (Int × Int × Bool) := (spec_l8Body.f k l0).bind fun t371 => (if t371 = true then ((spec_l8Ground.f k l0).bind fun bt372 => (some (bt372.1, bt372.2, true))) else (some (0, 0, false)))
theorem spec_GroundOf.mono : ∀ a0 k, LeO (spec_GroundOf.f k a0) (spec_GroundOf.f (k + 1) a0) := by
 intro a0 k
 unfold spec_GroundOf.f
 repeat' first
   | (with_reducible exact spec_l8Body.mono _ _)
   | (with_reducible exact spec_l8Ground.mono _ _)
   | (with_reducible exact LeO.refl _)
   | (with_reducible exact LeO.none _)
   | (with_reducible refine LeO.ite ?_ ?_)
   | (with_reducible refine LeO.bind ?_ (fun _ => ?_))
set_option maxHeartbeats 8000000 in
set_option maxRecDepth 100000 in
theorem spec_GroundOf.calls (k : Nat) (A0 : Option Addr) (c0 : Nat) (l0 : List (S49)) (r1 : Int) (r2 : Int) (r3 : Bool) (w : World) (hr0 : Kd.C k49 w A0 l0.length l0) (hc0 : l0.length ≤ c0) (h : spec_GroundOf.f k l0 = some (r1, r2, r3)) :
  Calls Try.prog 42 #[.slice A0 l0.length c0] w fun e w' => e = .returned (.tuple #[.int .i64 r1, .int .i64 r2, .bool r3]) ∧ Below w.heap.size w w' := by
 have HR0 := ak hr0; have HC0 := ak hc0; clear hr0 hc0; have HB := ak (Below.refl w.heap.size w); have H : ((spec_l8Body.f k l0).bind fun t371 => (if t371 = true then ((spec_l8Ground.f k l0).bind fun bt372 => (some (bt372.1, bt372.2, true))) else (some (0, 0, false)))) = some (r1, r2, r3) := h; clear h; obtain ⟨t371, A20, H⟩ := Option.bind_eq_some_iff.mp H
 have A2 := ak A20; clear A20
 by_cases c3 : t371 = true
 ·subst c3
  rw [if_pos rfl] at H; obtain ⟨⟨t372, t373⟩, A40, H⟩ := Option.bind_eq_some_iff.mp H
  (try dsimp only at H)
  have A4 := ak A40; clear A40; simp only [Option.some.injEq, Prod.mk.injEq] at H; obtain ⟨rfl, rfl, rfl⟩ := H
  go_enter Try.func42, Try.ntmps42
  go_wp2_with (first | ((with_reducible refine gate_callee (f := 55) rfl ?_); refine goesL_ (some 8) rfl rfl Try.func55 (by kernel_rfl) rfl #[.slice A0 l0.length c0] rfl aq ?_; (with_reducible refine (spec_l8Body.calls k _ _ l0 true _ ?side1 ?side2 A2.out).mono ?_); (case side1 => exact cq HR0.out); (case side2 => exact HC0.out); rintro e w5 ⟨rfl, hb⟩; refine ⟨_, rfl, ?_⟩; have n0_ := ak (below_step bq hb); clear HB; have HB := n0_; clear n0_; (try clear hb)) | ((with_reducible refine gate_callee (f := 101) rfl ?_); refine goesL_ (some 12) rfl rfl Try.func101 (by kernel_rfl) rfl #[.slice A0 l0.length c0] rfl aq ?_; (with_reducible refine (spec_l8Ground.calls k _ _ l0 t372 t373 _ ?side1 ?side2 A4.out).mono ?_); (case side1 => exact cq (Kd.C_below HR0.out HB.out)); (case side2 => exact HC0.out); rintro e w' ⟨rfl, ⟨nd, rfl⟩⟩; refine ⟨_, rfl, ?_⟩))
  go_ret3
  exact ⟨eq_, bq⟩
 ·replace c3 := Bool.eq_false_iff.mpr c3
  subst c3; rw [if_neg (show ¬ (false = true) by decide)] at H; simp only [Option.some.injEq, Prod.mk.injEq] at H; obtain ⟨rfl, rfl, rfl⟩ := H
  go_enter Try.func42, Try.ntmps42
  go_wp2_with (((with_reducible refine gate_callee (f := 55) rfl ?_); refine goesL_ (some 8) rfl rfl Try.func55 (by kernel_rfl) rfl #[.slice A0 l0.length c0] rfl aq ?_; (with_reducible refine (spec_l8Body.calls k _ _ l0 false _ ?side1 ?side2 A2.out).mono ?_); (case side1 => exact cq HR0.out); (case side2 => exact HC0.out); rintro e w6 ⟨rfl, hb⟩; refine ⟨_, rfl, ?_⟩; have n0_ := ak (below_step bq hb); clear HB; have HB := n0_; clear n0_; (try clear hb)))
  go_ret3
  exact ⟨eq_, bq⟩

/-! ### impl_MirrorBody_1: function 103 -/
def impl_MirrorBody_1.f (a0_0 : Int) (a0_1 : Int) : Option (Int × Int) := some (wrap64 (-a0_0), a0_1)
set_option maxHeartbeats 8000000 in
set_option maxRecDepth 100000 in
theorem impl_MirrorBody_1.calls (a0_0 : Int) (a0_1 : Int) (r1 : Int) (r2 : Int) (w : World) (h : impl_MirrorBody_1.f a0_0 a0_1 = some (r1, r2)) :
  Calls Try.prog 103 #[.agg #[.int .i64 a0_0, .int .i64 a0_1]] w fun e w' => e = .returned (.agg #[.int .i64 r1, .int .i64 r2]) ∧ Below w.heap.size w w' := by
 have hu49 := Try.underlying49; have HB := ak (Below.refl w.heap.size w); have H : (some (wrap64 (-a0_0), a0_1)) = some (r1, r2) := h; clear h; simp only [Option.some.injEq, Prod.mk.injEq] at H; obtain ⟨rfl, rfl⟩ := H
 go_enter Try.func103, Try.ntmps103
 go_wp2_with (first | ((with_reducible refine gate_dst (N := 1) rfl ?_); refine box_event ?hg (N := 1) ?hd (cs := #[.int .i64 a0_0, .int .i64 a0_1]) (t := 49) ?hr ?_; (case hd => rfl); (case hg => rfl); (case hr => (go_simp; done)); intro gb374 hg w2 hbox hb; have n0_ := ak (below_step bq hb); have n1_ := ak (hbox); have n2_ := ak ((by rw [hg]; exact (below_size bq) : w.heap.size ≤ gb374)); have n3_ := ak ((by rw [hg]; exact (below_size bq) : w.heap.size ≤ gb374)); clear HB; have HB := n0_; have BK374 := n1_; have GW374 := n2_; have GE374 := n3_; clear n0_ n1_ n2_ n3_; clear hb hbox hg) | ((with_reducible refine gate_dst (N := 2) rfl ?_); refine box_event ?hg (N := 2) ?hd (cs := #[.int .i64 0, .int .i64 0]) (t := 49) ?hr ?_; (case hd => rfl); (case hg => rfl); (case hr => (go_simp; done)); intro gb375 hg w3 hbox hb; have n0_ := ak (blk_below (g := gb374) (o := .cells #[.int .i64 a0_0, .int .i64 a0_1] 49 (0, 0)) (uq BK374) hb); have n1_ := ak (below_step bs hb); have n2_ := ak (hbox); have n3_ := ak ((by rw [hg]; exact (below_size bs) : w.heap.size ≤ gb375)); have n4_ := ak ((by rw [hg]; exact (below_size bs) : w.heap.size ≤ gb375)); have n5_ := ak ((by rw [hg]; exact Nat.ne_of_lt (blk_lt (g := gb374) (o := .cells #[.int .i64 a0_0, .int .i64 a0_1] 49 (0, 0)) (uq BK374)) : gb374 ≠ gb375)); have n6_ := ak ((by rw [hg]; exact Nat.ne_of_gt (blk_lt (g := gb374) (o := .cells #[.int .i64 a0_0, .int .i64 a0_1] 49 (0, 0)) (uq BK374)) : gb375 ≠ gb374)); clear BK374; clear HB; have BK374 := n0_; have HB := n1_; have BK375 := n2_; have GW375 := n3_; have GE375 := n4_; have NB374_375 := n5_; have NB375_374 := n6_; clear n0_ n1_ n2_ n3_ n4_ n5_ n6_; clear hb hbox hg; have hnb4 := NB374_375.out; have hnc4 := NB375_374.out; have hcz5_0 : w3.cell? ⟨gb374, 0, none⟩ = some (.int .i64 a0_0) := (blk_cell BK374.out 0).trans rfl; have hcz5_1 : w3.cell? ⟨gb374, 1, none⟩ = some (.int .i64 a0_1) := (blk_cell BK374.out 1).trans rfl; have hfz5_0 := blk_frozen BK374.out 0; have hfz5_1 := blk_frozen BK374.out 1; have hcz6_0 : w3.cell? ⟨gb375, 0, none⟩ = some (.int .i64 0) := (blk_cell BK375.out 0).trans rfl; have hcz6_1 : w3.cell? ⟨gb375, 1, none⟩ = some (.int .i64 0) := (blk_cell BK375.out 1).trans rfl; have hfz6_0 := blk_frozen BK375.out 0; have hfz6_1 := blk_frozen BK375.out 1))
 refine bodyPost_ret (results_cell_row rfl _ _ gb375 49 #[.int .i64 (wrap64 (-a0_0)), .int .i64 a0_1] (0, 0) _ rfl (by refine blk_put (cs := #[.int .i64 (wrap64 (-a0_0)), .int .i64 0]) ?_ 1 _ rfl; refine blk_put (cs := #[.int .i64 0, .int .i64 0]) ?_ 0 _ rfl; exact BK375.out) Try.underlying49 rfl (by kernel_rfl)) rfl ?_; exact ⟨eq_, bs⟩

/-! ### slices_SortFunc_compareCells: function 111, by hand -/
def cmpC (x y : S49) : Int := if x.f0 < y.f0 then -1 else if x.f0 > y.f0 then 1 else if x.f1 < y.f1 then -1 else if x.f1 > y.f1 then 1 else 0
theorem ltC_eq (x y : S49) : ltOf cmpC x y = decide (x.f0 < y.f0 ∨ (x.f0 = y.f0 ∧ x.f1 < y.f1)) := by
 unfold ltOf cmpC
 split
 ·next h => simp [h]
 ·split
  ·next h h2 => simp; omega
  ·split
   ·next h h2 h3 => simp; omega
   ·split
    ·next h h2 h3 h4 => simp; omega
    ·next h h2 h3 h4 => simp; omega
theorem swoC : Go.Sort.SWO (ltOf cmpC) where
 irrefl x := by rw [ltC_eq]; simp
 trans x y z h1 h2 := by rw [ltC_eq] at *; simp only [decide_eq_true_eq] at *; omega
 ntrans x y z h1 h2 := by rw [ltC_eq] at *; simp only [decide_eq_false_iff_not] at *; omega
instance : Inhabited S49 := ⟨⟨0, 0⟩⟩
def encC (x : S49) : List Value := [.int .i64 x.f0, .int .i64 x.f1]
/-- The list as the library's sort leaves it. -/
def sortC (l : List (S49)) : List (S49) := (Go.Sort.pdq (ltOf cmpC) l.toArray 0 l.toArray.size (Go.Lib.bitLen l.toArray.size) true true).toList
def slices_SortFunc_compareCells.f (l0 : List (S49)) : Option (List (S49)) := if 0 < l0.length ∧ l0.length < 4611686018427387904 then some (sortC l0) else none
theorem sortC_perm (l : List (S49)) : Go.Sort.PermIn 0 l.toArray.size l.toArray (Go.Sort.pdq (ltOf cmpC) l.toArray 0 l.toArray.size (Go.Lib.bitLen l.toArray.size) true true) ∧ Go.Sort.SortedIn (ltOf cmpC) 0 l.toArray.size (Go.Sort.pdq (ltOf cmpC) l.toArray 0 l.toArray.size (Go.Lib.bitLen l.toArray.size) true true) := Go.Sort.pdq_sorts (ltOf cmpC) swoC l.toArray 0 l.toArray.size (Go.Lib.bitLen l.toArray.size) true true (Nat.zero_le _) (Nat.le_refl _) (Or.inl rfl)

theorem enc_len (x : S49) : (encC x).length = 2 := rfl
theorem chunk_at {l : List (S49)} {inner : List Value} {w : World} {base : Nat} {ok : Nat → Prop} (h : Reps (k49.M w base ok) k49.sz l inner) : inner = (Go.Sort.flatK encC 2 l.toArray).toList := by
 obtain ⟨hl, hc⟩ := h; have hsz : k49.sz = 2 := rfl; rw [hsz] at hl hc
 apply List.ext_getElem?
 intro t
 by_cases ht : t < l.length * 2
 ·have hj : t / 2 < l.length := by omega
  have hm := k49_openM (hc (t / 2) _ (List.getElem?_eq_getElem hj))
  have h1 : ((inner.drop (t / 2 * 2)).take 2)[t % 2]? = inner[t]? := by
   rw [List.getElem?_take_of_lt (by omega), List.getElem?_drop]
   congr 1; omega
  rw [← h1, hm]
  have h2 : t < l.toArray.size * 2 := by simpa using ht
  have h2' : t < (Go.Sort.flatK encC 2 l.toArray).size := by simpa using h2
  rw [show (Go.Sort.flatK encC 2 l.toArray).toList[t]? = (Go.Sort.flatK encC 2 l.toArray)[t]? from Array.getElem?_toList, Array.getElem?_eq_getElem h2']; have h3 := Go.Sort.get_flatK encC 2 l.toArray t h2; rw [getElem!_pos (Go.Sort.flatK encC 2 l.toArray) t h2'] at h3; rw [h3, getElem!_pos _ (t / 2) (by simpa using hj)]
  have h4 : t % 2 = 0 ∨ t % 2 = 1 := by omega
  rcases h4 with h4 | h4 <;> rw [h4] <;> simp [encC]
 ·rw [List.getElem?_eq_none (by omega), List.getElem?_eq_none (by simp; omega)]
theorem chunk_of (l : List (S49)) (w : World) (base : Nat) (ok : Nat → Prop) : Reps (k49.M w base ok) k49.sz l (Go.Sort.flatK encC 2 l.toArray).toList := by
 have hsz : k49.sz = 2 := rfl; rw [hsz]; refine ⟨by simp, fun j p hj => ?_⟩; obtain ⟨hjl, hp⟩ := List.getElem?_eq_some_iff.1 hj
 have e : (((Go.Sort.flatK encC 2 l.toArray).toList.drop (j * 2)).take 2) = encC p := by
  apply List.ext_getElem?
  intro t
  by_cases ht : t < 2
  ·rw [List.getElem?_take_of_lt ht, List.getElem?_drop]
   have h2 : j * 2 + t < l.toArray.size * 2 := by simp; omega
   rw [Array.getElem?_toList, Array.getElem?_eq_getElem (by simpa using h2)]; have h3 := Go.Sort.get_flatK encC 2 l.toArray (j * 2 + t) h2; rw [getElem!_pos _ _ (by simpa using h2)] at h3; rw [h3, show (j * 2 + t) / 2 = j by omega, show (j * 2 + t) % 2 = t by omega, getElem!_pos _ j (by simpa using hjl)]
   have : l.toArray[j]'(by simpa using hjl) = p := by simpa using hp
   rw [this]
   have h4 : t = 0 ∨ t = 1 := by omega
   rcases h4 with h4 | h4 <;> subst h4 <;> simp [encC]
  ·rw [List.getElem?_take_eq_none (by omega), List.getElem?_eq_none (by simp [encC]; omega)]
 rw [e]; exact k49_mkM w base ok p
theorem holds_cells {w : World} {g : Nat} {cur : Array Value} {e : TypeId} {F : Array Value} (hb : w.heap[g]? = some (.cells cur e (0, 0))) (ht : cur.toList.take F.size = F.toList) : Go.Sort.Holds id w g 0 F := by
 intro j hj; refine ⟨?_, by simp [World.frozen?, hb]⟩
 have h1 : (cur.toList.take F.size)[j]? = F.toList[j]? := by rw [ht]
 rw [List.getElem?_take_of_lt hj] at h1; simp only [World.cell?, hb, Nat.zero_add]; simp only [Option.isSome_none, Bool.false_eq_true, if_false]; rw [← Array.getElem?_toList, h1, Array.getElem?_toList, Array.getElem?_eq_getElem hj, getElem!_pos _ j hj]
 rfl
theorem heap_sortedK {w : World} {g n : Nat} {os : Array Obj} {cur : Array Value} {e : TypeId} {fr : Nat × Nat} (F : Array Value) (hb : w.heap[g]? = some (.cells cur e fr)) :
  (Go.Sort.grow (Go.Sort.putRow id (Go.Sort.ahead w n) g 0 F) os).heap[g]? = some (.cells (Go.Sort.putCells id 0 F cur) e fr) := by
 have hg : g < w.heap.size := (Array.getElem?_eq_some_iff.1 hb).1; rw [Go.Sort.heap_grow_old _ _ (by simpa using hg)]
 simp [Go.Sort.putRow, Go.Sort.mapBlock, Go.Sort.ahead, Array.getElem?_modify, hb, Go.Sort.onCells]
theorem grownBy_sortedK {w : World} {g n : Nat} {os : Array Obj} (F : Array Value) : w.grownBy (Go.Sort.grow (Go.Sort.putRow id (Go.Sort.ahead w n) g 0 F) os) (some g) := by
 refine ⟨rfl, rfl, rfl, by simp, fun k hk hne => ?_⟩; rw [Go.Sort.heap_grow_old _ _ (by simpa using hk)]
 have : g ≠ k := fun e => hne (by rw [e])
 simp [Go.Sort.putRow, Go.Sort.mapBlock, Go.Sort.ahead, Array.getElem?_modify, this]
theorem take_putCellsK (cur F : Array Value) (h : F.size ≤ cur.size) : (Go.Sort.putCells id 0 F cur).toList.take F.size = F.toList := by
 apply List.ext_getElem?
 intro j
 by_cases hj : j < F.size
 ·rw [List.getElem?_take_of_lt hj, Array.getElem?_toList]
  simp [Go.Sort.putCells, hj, show j < cur.size by omega]
 ·rw [List.getElem?_take_eq_none (by omega), List.getElem?_eq_none (by simpa using hj)]
set_option maxHeartbeats 2000000 in
set_option maxRecDepth 100000 in
theorem impl_compareCells.callsG (k : Nat) (a0_0 a0_1 a1_0 a1_1 r : Int) (w : World) (h : impl_compareCells.f k a0_0 a0_1 a1_0 a1_1 = some r) :
  Calls Try.prog 84 #[.agg #[.int .i64 a0_0, .int .i64 a0_1], .agg #[.int .i64 a1_0, .int .i64 a1_1]] w fun e w' => e = .returned (.int .i64 r) ∧ ∃ q os', w' = Go.Sort.grow (w.drewN q) os' := by
 obtain ⟨W2, hW2⟩ : ∃ W2, W2 = ((w.alloc (Obj.cells #[Value.int IntKind.i64 a0_0, Value.int IntKind.i64 a0_1] 49)).alloc (Obj.cells #[Value.int IntKind.i64 a1_0, Value.int IntKind.i64 a1_1] 49)) := ⟨_, rfl⟩
 have g0 : W2.heap[w.heap.size]? = some (Obj.cells #[Value.int IntKind.i64 a0_0, Value.int IntKind.i64 a0_1] 49) := by
  rw [hW2, heap_alloc_old]
  ·exact heap_alloc_new w _
  ·show w.heap.size < (w.heap.push _).size
   simp
 have g1 : W2.heap[w.heap.size + 1]? = some (Obj.cells #[Value.int IntKind.i64 a1_0, Value.int IntKind.i64 a1_1] 49) := by
  rw [hW2]; exact heap_alloc2_new w _ _
 have hB : Below w.heap.size w W2 := by
  rw [hW2]; repeat (first | exact Below.refl _ _ | apply below_alloc)
 have hC0 : Kd.C (Kd.int .i64) W2 (some ⟨w.heap.size, 0, none⟩) ([a0_0, a0_1] : List Int).length [a0_0, a0_1] := Kd.C_of_reads (enc := Value.int .i64) (d := 0) (h1 := fun _ => rfl) ⟨rfl, (by show 2 ≤ 9223372036854775807; omega), fun _ => ⟨_, rfl, fun j hj => by
  rcases (show j = 0 ∨ j = 1 by simp at hj; omega) with rfl | rfl
  ·simp [World.cell?, Addr.add, g0]
  ·simp [World.cell?, Addr.add, g0]⟩⟩
 have hC1 : Kd.C (Kd.int .i64) W2 (some ⟨w.heap.size + 1, 0, none⟩) ([a1_0, a1_1] : List Int).length [a1_0, a1_1] := Kd.C_of_reads (enc := Value.int .i64) (d := 0) (h1 := fun _ => rfl) ⟨rfl, (by show 2 ≤ 9223372036854775807; omega), fun _ => ⟨_, rfl, fun j hj => by
  rcases (show j = 0 ∨ j = 1 by simp at hj; omega) with rfl | rfl
  ·simp [World.cell?, Addr.add, g1]
  ·simp [World.cell?, Addr.add, g1]⟩⟩
 have hcall : ∀ n : Nat, Calls Try.prog 117 #[.slice (some ⟨w.heap.size, 0, none⟩) 2 2, .slice (some ⟨w.heap.size + 1, 0, none⟩) 2 2] (W2.drewN n) fun e w' => e = .returned (.int .i64 r) ∧ Drawn0 (W2.drewN n) w' := fun n => slices_Compare.calls k _ _ [a0_0, a0_1] _ _ [a1_0, a1_1] r _ (Kd.C_drewN hC0 n) (Nat.le_refl 2) (Kd.C_drewN hC1 n) (Nat.le_refl 2) h
 subst hW2
 go_enter Try.func84, Try.ntmps84
 go_wp2

 go_quiet ((go_at_call 117; refine (hcall _).mono ?_; rintro e w' ⟨rfl, ⟨nd, rfl⟩⟩; (try exact ⟨rfl, _, World.drewN_drewN _ _ _⟩)))
 go_wp2; go_ret; exact ⟨rfl, _, _, by rw [Go.Sort.alloc_eq_grow, Go.Sort.alloc_eq_grow, Go.Sort.grow_grow]; rfl⟩

theorem below_grownC (w : World) (q : Nat) (os : Array Obj) : Below w.heap.size w (Go.Sort.grow (w.drewN q) os) := ⟨rfl, rfl, rfl, by simp [Go.Sort.grow], fun k hk => Go.Sort.heap_grow_old (w.drewN q) os hk⟩
theorem compareCells_val (x y : S49) : impl_compareCells.f 4 x.f0 x.f1 y.f0 y.f1 = some (cmpC x y) := by
 unfold impl_compareCells.f slices_Compare.f cmpC
 have e0 : rd [x.f0, x.f1] 0 = x.f0 := rfl; have e1 : rd [x.f0, x.f1] 1 = x.f1 := rfl; have e2 : rd [y.f0, y.f1] 0 = y.f0 := rfl; have e3 : rd [y.f0, y.f1] 1 = y.f1 := rfl
 have w0 : wrap64 ((0 : Int) + 1) = 1 := by unfold wrap64; omega
 have w1 : wrap64 ((1 : Int) + 1) = 2 := by unfold wrap64; omega
 have cmp : ∀ a b : Int, cmp_Compare.f a b = some (if a < b then -1 else if a > b then 1 else 0) := by
  intro a b
  unfold cmp_Compare.f cmp_isNaN.f
  simp only [bne_self_eq_false, Option.bind_some, if_neg Bool.false_ne_true]
  split
  ·rfl
  ·split <;> rfl
 simp only [slices_Compare.l0, cmp, e0, e1, e2, e3, w0, w1, Option.bind_some]
 simp
 by_cases h0 : x.f0 < y.f0
 ·simp [h0]
 ·by_cases h1 : y.f0 < x.f0
  ·simp [h0, h1]
  ·by_cases h2 : x.f1 < y.f1
   ·simp [h0, h1, h2]
   ·by_cases h3 : y.f1 < x.f1 <;> simp [h0, h1, h2, h3]

set_option maxHeartbeats 2000000 in
set_option maxRecDepth 100000 in
theorem slices_SortFunc_compareCells.calls (P0_ : Nat → Prop) (u9000_ : Value) (l0 : List (S49)) (r : List (S49)) (w0 w : World) (hB : Below w0.heap.size w0 w) (ho0 : Kd.R k49 49 w w0.heap.size P0_ u9000_ l0) (h : slices_SortFunc_compareCells.f l0 = some r) :
  Calls Try.prog 111 #[u9000_, .func (.func 84) #[] #[]] w fun e w' => e = .returned (.tuple #[]) ∧ Kd.R k49 49 w' w0.heap.size (fun k_ => (P0_ k_ ∨ w.heap.size ≤ k_)) u9000_ r ∧ Below w0.heap.size w0 w' ∧ Kept w w' (fun k_ => P0_ k_) := by
 unfold slices_SortFunc_compareCells.f at h
 by_cases hz : ¬ (0 < l0.length ∧ l0.length < 4611686018427387904)
 ·rw [if_neg hz] at h; cases h
 replace hz := Classical.not_not.1 hz; rw [if_pos hz] at h; obtain rfl := Option.some.inj h; obtain ⟨hok, inner, ⟨ho1, ho2⟩, hr⟩ := ho0
 rcases ho2 with ⟨_, hn⟩ | ⟨g, cap, cur, rfl, hbase, hcur, h1, h2, h3, h4⟩
 ·omega
 have hin := chunk_at hr; have hsz : k49.sz = 2 := rfl; rw [hsz] at h3 h4
 have hF : (Go.Sort.flatK encC 2 l0.toArray).size = l0.length * 2 := by simp
 have hH : Go.Sort.HoldsK encC 2 w g 0 l0.toArray := holds_cells hcur (by rw [hF, h4, hin]); have hblk : g < w.heap.size := (Array.getElem?_eq_some_iff.1 hcur).1
 have hbig : l0.toArray.size < 4611686018427387904 := by
  simpa using hz.2
 have eg : ∀ args W, (callFunc 84 args).run Try.prog W = .ok (.enter 84 args) W := enters_of Try.func84 (by kernel_rfl) rfl
 have hcmp : CmpLays Try.prog 84 #[] encC 2 cmpC g 0 l0.toArray.size w := fun m os dk hs x y => impl_compareCells.callsG 4 x.f0 x.f1 y.f0 y.f1 (cmpC x y) _ (compareCells_val x y)
 have hcon := AnyQ.slices_SortFunc_eq Try.sortCells 2 Try.isAgg49 Try.sizeOf49 encC enc_len (fun x v hv => by simp [encC] at hv; rcases hv with rfl | rfl <;> rfl) cmpC swoC 84 #[] g 0 cap l0.toArray w eg hcmp hH hblk hbig
 have hcon2 : Calls Try.prog 111 #[.slice (some ⟨g, 0, none⟩) l0.length cap, .func (.func 84) #[] #[]] w fun e w' => e = .returned (.tuple #[]) ∧ ∃ n os, w' = sortWorldK encC 2 w g 0 n (sortC l0).toArray os := hcon
 refine hcon2.mono ?_
 rintro e w' ⟨rfl, n, os, rfl⟩
 have hperm := (sortC_perm l0).1.1
 have hlen : (sortC l0).length = l0.length := by
  unfold sortC; rw [Array.length_toList]; simpa using hperm
 have hgr := grownBy_sortedK (w := w) (g := g) (n := n) (os := os) (Go.Sort.flatK encC 2 (sortC l0).toArray); refine ⟨rfl, ⟨fun k hk => Or.inl (hok k hk), (Go.Sort.flatK encC 2 (sortC l0).toArray).toList, ⟨?_, Or.inr ⟨g, cap, _, ?_, hbase, heap_sortedK _ hcur, ?_, h2, ?_, ?_⟩⟩, chunk_of _ _ _ _⟩, hB.grown hgr hB.size (fun k hk => by cases hk; exact hbase), Kept.of_grown hgr (Kept.refl w _) (fun k hk => by cases hk; exact Or.inl (hok g rfl))⟩
 ·simp [hlen, hsz]
 ·rw [hlen]
 ·rw [hlen]; exact h1
 ·simp [Go.Sort.putCells, h3, hsz]
 ·have hF2 : (Go.Sort.flatK encC 2 (sortC l0).toArray).size = (sortC l0).length * k49.sz := by simp [hsz]
  rw [← hF2]; exact take_putCellsK cur _ (by rw [hF2, hsz, h3, hlen]; omega)

end Go.Proofs.Ytckhmeadflafaaa.XFb
