/- Functions of the program as plain Lean functions, each with the proof that the machine's call does what it says: written by a program of this session out of the translation. -/
import Derived.Shelf.SlSortCmp.WholeK
import Derived.Sort.AssemblyPlain
import Derived.Test.YtckhmeadflafaaaSortLay
import Derived.Test.YtckhmeadflafaaaXFsx0
import Derived.Test.YtckhmeadflafaaaXFsx8
import Derived.Test.YtckhmeadflafaaaXFsx9
namespace Go.Proofs.Ytckhmeadflafaaa.XFs
open Go.RowKit Go.Proofs.YtckhmeadflafaaaW.PrintWords Go.Proofs.YtckhmeadflafaaaW.PrintLast Go.Proofs.YtckhmeadflafaaaW.PrintMore
attribute [local go_sem] max2_int min2_int max_two min_two max_three min_three max_four min_four   -- for this text's walks alone
set_option linter.unusedVariables false
set_option linter.unusedSimpArgs false

/-! ### slices_SortFunc_compareCells: function 111, by hand -/
def cmpC (x y : S49) : Int := if x.f0 < y.f0 then -1 else if x.f0 > y.f0 then 1 else if x.f1 < y.f1 then -1 else if x.f1 > y.f1 then 1 else 0
theorem ltC_eq (x y : S49) : ltOf cmpC x y = decide (x.f0 < y.f0 ∨ (x.f0 = y.f0 ∧ x.f1 < y.f1)) := by
 unfold ltOf cmpC
 split
 ·next h => simp [h]
 ·split
  ·next h h2 => simp; omega
  ·split
   ·next h h2 h3 => simp; omega
   ·split
    ·next h h2 h3 h4 => simp; omega
    ·next h h2 h3 h4 => simp; omega
theorem swoC : Go.Sort.SWO (ltOf cmpC) where
 irrefl x := by rw [ltC_eq]; simp
 trans x y z h1 h2 := by rw [ltC_eq] at *; simp only [decide_eq_true_eq] at *; omega
 ntrans x y z h1 h2 := by rw [ltC_eq] at *; simp only [decide_eq_false_iff_not] at *; omega
instance : Inhabited S49 := ⟨⟨0, 0⟩⟩
def encC (x : S49) : List Value := [.int .i64 x.f0, .int .i64 x.f1]
/-- The list as the library's sort leaves it. -/
def sortC (l : List (S49)) : List (S49) := (Go.Sort.pdq (ltOf cmpC) l.toArray 0 l.toArray.size (Go.Lib.bitLen l.toArray.size) true true).toList
def slices_SortFunc_compareCells.f (l0 : List (S49)) : Option (List (S49)) := if 0 < l0.length ∧ l0.length < 4611686018427387904 then some (sortC l0) else none
theorem sortC_perm (l : List (S49)) : Go.Sort.PermIn 0 l.toArray.size l.toArray (Go.Sort.pdq (ltOf cmpC) l.toArray 0 l.toArray.size (Go.Lib.bitLen l.toArray.size) true true) ∧ Go.Sort.SortedIn (ltOf cmpC) 0 l.toArray.size (Go.Sort.pdq (ltOf cmpC) l.toArray 0 l.toArray.size (Go.Lib.bitLen l.toArray.size) true true) := Go.Sort.pdq_sorts (ltOf cmpC) swoC l.toArray 0 l.toArray.size (Go.Lib.bitLen l.toArray.size) true true (Nat.zero_le _) (Nat.le_refl _) (Or.inl rfl)

theorem enc_len (x : S49) : (encC x).length = 2 := rfl
theorem chunk_at {l : List (S49)} {inner : List Value} {w : World} {base : Nat} {ok : Nat → Prop} (h : Reps (k49.M w base ok) k49.sz l inner) : inner = (Go.Sort.flatK encC 2 l.toArray).toList := by
 obtain ⟨hl, hc⟩ := h; have hsz : k49.sz = 2 := rfl; rw [hsz] at hl hc
 apply List.ext_getElem?
 intro t
 by_cases ht : t < l.length * 2
 ·have hj : t / 2 < l.length := by omega
  have hm := k49_openM (hc (t / 2) _ (List.getElem?_eq_getElem hj))
  have h1 : ((inner.drop (t / 2 * 2)).take 2)[t % 2]? = inner[t]? := by
   rw [List.getElem?_take_of_lt (by omega), List.getElem?_drop]
   congr 1; omega
  rw [← h1, hm]
  have h2 : t < l.toArray.size * 2 := by simpa using ht
  have h2' : t < (Go.Sort.flatK encC 2 l.toArray).size := by simpa using h2
  rw [show (Go.Sort.flatK encC 2 l.toArray).toList[t]? = (Go.Sort.flatK encC 2 l.toArray)[t]? from Array.getElem?_toList, Array.getElem?_eq_getElem h2']; have h3 := Go.Sort.get_flatK encC 2 l.toArray t h2; rw [getElem!_pos (Go.Sort.flatK encC 2 l.toArray) t h2'] at h3; rw [h3, getElem!_pos _ (t / 2) (by simpa using hj)]
  have h4 : t % 2 = 0 ∨ t % 2 = 1 := by omega
  rcases h4 with h4 | h4 <;> rw [h4] <;> simp [encC]
 ·rw [List.getElem?_eq_none (by omega), List.getElem?_eq_none (by simp; omega)]
theorem chunk_of (l : List (S49)) (w : World) (base : Nat) (ok : Nat → Prop) : Reps (k49.M w base ok) k49.sz l (Go.Sort.flatK encC 2 l.toArray).toList := by
 have hsz : k49.sz = 2 := rfl; rw [hsz]; refine ⟨by simp, fun j p hj => ?_⟩; obtain ⟨hjl, hp⟩ := List.getElem?_eq_some_iff.1 hj
 have e : (((Go.Sort.flatK encC 2 l.toArray).toList.drop (j * 2)).take 2) = encC p := by
  apply List.ext_getElem?
  intro t
  by_cases ht : t < 2
  ·rw [List.getElem?_take_of_lt ht, List.getElem?_drop]
   have h2 : j * 2 + t < l.toArray.size * 2 := by simp; omega
   rw [Array.getElem?_toList, Array.getElem?_eq_getElem (by simpa using h2)]; have h3 := Go.Sort.get_flatK encC 2 l.toArray (j * 2 + t) h2; rw [getElem!_pos _ _ (by simpa using h2)] at h3; rw [h3, show (j * 2 + t) / 2 = j by omega, show (j * 2 + t) % 2 = t by omega, getElem!_pos _ j (by simpa using hjl)]
   have : l.toArray[j]'(by simpa using hjl) = p := by simpa using hp
   rw [this]
   have h4 : t = 0 ∨ t = 1 := by omega
   rcases h4 with h4 | h4 <;> subst h4 <;> simp [encC]
  ·rw [List.getElem?_take_eq_none (by omega), List.getElem?_eq_none (by simp [encC]; omega)]
 rw [e]; exact k49_mkM w base ok p
theorem holds_cells {w : World} {g : Nat} {cur : Array Value} {e : TypeId} {F : Array Value} (hb : w.heap[g]? = some (.cells cur e (0, 0))) (ht : cur.toList.take F.size = F.toList) : Go.Sort.Holds id w g 0 F := by
 intro j hj; refine ⟨?_, by simp [World.frozen?, hb]⟩
 have h1 : (cur.toList.take F.size)[j]? = F.toList[j]? := by rw [ht]
 rw [List.getElem?_take_of_lt hj] at h1; simp only [World.cell?, hb, Nat.zero_add]; simp only [Option.isSome_none, Bool.false_eq_true, if_false]; rw [← Array.getElem?_toList, h1, Array.getElem?_toList, Array.getElem?_eq_getElem hj, getElem!_pos _ j hj]
 rfl
theorem heap_sortedK {w : World} {g n : Nat} {os : Array Obj} {cur : Array Value} {e : TypeId} {fr : Nat × Nat} (F : Array Value) (hb : w.heap[g]? = some (.cells cur e fr)) :
  (Go.Sort.grow (Go.Sort.putRow id (Go.Sort.ahead w n) g 0 F) os).heap[g]? = some (.cells (Go.Sort.putCells id 0 F cur) e fr) := by
 have hg : g < w.heap.size := (Array.getElem?_eq_some_iff.1 hb).1; rw [Go.Sort.heap_grow_old _ _ (by simpa using hg)]
 simp [Go.Sort.putRow, Go.Sort.mapBlock, Go.Sort.ahead, Array.getElem?_modify, hb, Go.Sort.onCells]
theorem grownBy_sortedK {w : World} {g n : Nat} {os : Array Obj} (F : Array Value) : w.grownBy (Go.Sort.grow (Go.Sort.putRow id (Go.Sort.ahead w n) g 0 F) os) (some g) := by
 refine ⟨rfl, rfl, rfl, by simp, fun k hk hne => ?_⟩; rw [Go.Sort.heap_grow_old _ _ (by simpa using hk)]
 have : g ≠ k := fun e => hne (by rw [e])
 simp [Go.Sort.putRow, Go.Sort.mapBlock, Go.Sort.ahead, Array.getElem?_modify, this]
theorem take_putCellsK (cur F : Array Value) (h : F.size ≤ cur.size) : (Go.Sort.putCells id 0 F cur).toList.take F.size = F.toList := by
 apply List.ext_getElem?
 intro j
 by_cases hj : j < F.size
 ·rw [List.getElem?_take_of_lt hj, Array.getElem?_toList]
  simp [Go.Sort.putCells, hj, show j < cur.size by omega]
 ·rw [List.getElem?_take_eq_none (by omega), List.getElem?_eq_none (by simpa using hj)]
set_option maxHeartbeats 2000000 in
set_option maxRecDepth 100000 in
theorem impl_compareCells.callsG (k : Nat) (a0_0 a0_1 a1_0 a1_1 r : Int) (w : World) (h : impl_compareCells.f k a0_0 a0_1 a1_0 a1_1 = some r) :
  Calls Try.prog 84 #[.agg #[.int .i64 a0_0, .int .i64 a0_1], .agg #[.int .i64 a1_0, .int .i64 a1_1]] w fun e w' => e = .returned (.int .i64 r) ∧ ∃ q os', w' = Go.Sort.grow (w.drewN q) os' := by
 obtain ⟨W2, hW2⟩ : ∃ W2, W2 = ((w.alloc (Obj.cells #[Value.int IntKind.i64 a0_0, Value.int IntKind.i64 a0_1] 49)).alloc (Obj.cells #[Value.int IntKind.i64 a1_0, Value.int IntKind.i64 a1_1] 49)) := ⟨_, rfl⟩
 have g0 : W2.heap[w.heap.size]? = some (Obj.cells #[Value.int IntKind.i64 a0_0, Value.int IntKind.i64 a0_1] 49) := by
  rw [hW2, heap_alloc_old]
  ·exact heap_alloc_new w _
  ·show w.heap.size < (w.heap.push _).size
   simp
 have g1 : W2.heap[w.heap.size + 1]? = some (Obj.cells #[Value.int IntKind.i64 a1_0, Value.int IntKind.i64 a1_1] 49) := by
  rw [hW2]; exact heap_alloc2_new w _ _
 have hB : Below w.heap.size w W2 := by
  rw [hW2]; repeat (first | exact Below.refl _ _ | apply below_alloc)
 have hC0 : Kd.C (Kd.int .i64) W2 (some ⟨w.heap.size, 0, none⟩) ([a0_0, a0_1] : List Int).length [a0_0, a0_1] := Kd.C_of_reads (enc := Value.int .i64) (d := 0) (h1 := fun _ => rfl) ⟨rfl, (by show 2 ≤ 9223372036854775807; omega), fun _ => ⟨_, rfl, fun j hj => by
  rcases (show j = 0 ∨ j = 1 by simp at hj; omega) with rfl | rfl
  ·simp [World.cell?, Addr.add, g0]
  ·simp [World.cell?, Addr.add, g0]⟩⟩
 have hC1 : Kd.C (Kd.int .i64) W2 (some ⟨w.heap.size + 1, 0, none⟩) ([a1_0, a1_1] : List Int).length [a1_0, a1_1] := Kd.C_of_reads (enc := Value.int .i64) (d := 0) (h1 := fun _ => rfl) ⟨rfl, (by show 2 ≤ 9223372036854775807; omega), fun _ => ⟨_, rfl, fun j hj => by
  rcases (show j = 0 ∨ j = 1 by simp at hj; omega) with rfl | rfl
  ·simp [World.cell?, Addr.add, g1]
  ·simp [World.cell?, Addr.add, g1]⟩⟩
 have hcall : ∀ n : Nat, Calls Try.prog 117 #[.slice (some ⟨w.heap.size, 0, none⟩) 2 2, .slice (some ⟨w.heap.size + 1, 0, none⟩) 2 2] (W2.drewN n) fun e w' => e = .returned (.int .i64 r) ∧ Drawn0 (W2.drewN n) w' := fun n => slices_Compare.calls k _ _ [a0_0, a0_1] _ _ [a1_0, a1_1] r _ (Kd.C_drewN hC0 n) (Nat.le_refl 2) (Kd.C_drewN hC1 n) (Nat.le_refl 2) h
 subst hW2
 go_enter Try.func84, Try.ntmps84
 go_wp2

 go_quiet ((go_at_call 117; refine (hcall _).mono ?_; rintro e w' ⟨rfl, ⟨nd, rfl⟩⟩; (try exact ⟨rfl, _, World.drewN_drewN _ _ _⟩)))
 go_wp2; go_ret; exact ⟨rfl, _, _, by rw [Go.Sort.alloc_eq_grow, Go.Sort.alloc_eq_grow, Go.Sort.grow_grow]; rfl⟩

theorem below_grownC (w : World) (q : Nat) (os : Array Obj) : Below w.heap.size w (Go.Sort.grow (w.drewN q) os) := ⟨rfl, rfl, rfl, by simp [Go.Sort.grow], fun k hk => Go.Sort.heap_grow_old (w.drewN q) os hk⟩
theorem compareCells_val (x y : S49) : impl_compareCells.f 4 x.f0 x.f1 y.f0 y.f1 = some (cmpC x y) := by
 unfold impl_compareCells.f slices_Compare.f cmpC
 have e0 : rd [x.f0, x.f1] 0 = x.f0 := rfl; have e1 : rd [x.f0, x.f1] 1 = x.f1 := rfl; have e2 : rd [y.f0, y.f1] 0 = y.f0 := rfl; have e3 : rd [y.f0, y.f1] 1 = y.f1 := rfl
 have w0 : wrap64 ((0 : Int) + 1) = 1 := by unfold wrap64; omega
 have w1 : wrap64 ((1 : Int) + 1) = 2 := by unfold wrap64; omega
 have cmp : ∀ a b : Int, cmp_Compare.f a b = some (if a < b then -1 else if a > b then 1 else 0) := by
  intro a b
  unfold cmp_Compare.f cmp_isNaN.f
  simp only [bne_self_eq_false, Option.bind_some, if_neg Bool.false_ne_true]
  split
  ·rfl
  ·split <;> rfl
 simp only [slices_Compare.l0, cmp, e0, e1, e2, e3, w0, w1, Option.bind_some]
 simp
 by_cases h0 : x.f0 < y.f0
 ·simp [h0]
 ·by_cases h1 : y.f0 < x.f0
  ·simp [h0, h1]
  ·by_cases h2 : x.f1 < y.f1
   ·simp [h0, h1, h2]
   ·by_cases h3 : y.f1 < x.f1 <;> simp [h0, h1, h2, h3]

set_option maxHeartbeats 2000000 in
set_option maxRecDepth 100000 in
theorem slices_SortFunc_compareCells.calls (P0_ : Nat → Prop) (u9000_ : Value) (l0 : List (S49)) (r : List (S49)) (w0 w : World) (hB : Below w0.heap.size w0 w) (ho0 : Kd.R k49 49 w w0.heap.size P0_ u9000_ l0) (h : slices_SortFunc_compareCells.f l0 = some r) :
  Calls Try.prog 111 #[u9000_, .func (.func 84) #[] #[]] w fun e w' => e = .returned (.tuple #[]) ∧ Kd.R k49 49 w' w0.heap.size (fun k_ => (P0_ k_ ∨ w.heap.size ≤ k_)) u9000_ r ∧ Below w0.heap.size w0 w' ∧ Kept w w' (fun k_ => P0_ k_) := by
 unfold slices_SortFunc_compareCells.f at h
 by_cases hz : ¬ (0 < l0.length ∧ l0.length < 4611686018427387904)
 ·rw [if_neg hz] at h; cases h
 replace hz := Classical.not_not.1 hz; rw [if_pos hz] at h; obtain rfl := Option.some.inj h; obtain ⟨hok, inner, ⟨ho1, ho2⟩, hr⟩ := ho0
 rcases ho2 with ⟨_, hn⟩ | ⟨g, cap, cur, rfl, hbase, hcur, h1, h2, h3, h4⟩
 ·omega
 have hin := chunk_at hr; have hsz : k49.sz = 2 := rfl; rw [hsz] at h3 h4
 have hF : (Go.Sort.flatK encC 2 l0.toArray).size = l0.length * 2 := by simp
 have hH : Go.Sort.HoldsK encC 2 w g 0 l0.toArray := holds_cells hcur (by rw [hF, h4, hin]); have hblk : g < w.heap.size := (Array.getElem?_eq_some_iff.1 hcur).1
 have hbig : l0.toArray.size < 4611686018427387904 := by
  simpa using hz.2
 have eg : ∀ args W, (callFunc 84 args).run Try.prog W = .ok (.enter 84 args) W := enters_of Try.func84 (by kernel_rfl) rfl
 have hcmp : CmpLays Try.prog 84 #[] encC 2 cmpC g 0 l0.toArray.size w := fun m os dk hs x y => impl_compareCells.callsG 4 x.f0 x.f1 y.f0 y.f1 (cmpC x y) _ (compareCells_val x y)
 have hcon := AnyQ.slices_SortFunc_eq Try.sortCells 2 Try.isAgg49 Try.sizeOf49 encC enc_len (fun x v hv => by simp [encC] at hv; rcases hv with rfl | rfl <;> rfl) cmpC swoC 84 #[] g 0 cap l0.toArray w eg hcmp hH hblk hbig
 have hcon2 : Calls Try.prog 111 #[.slice (some ⟨g, 0, none⟩) l0.length cap, .func (.func 84) #[] #[]] w fun e w' => e = .returned (.tuple #[]) ∧ ∃ n os, w' = sortWorldK encC 2 w g 0 n (sortC l0).toArray os := hcon
 refine hcon2.mono ?_
 rintro e w' ⟨rfl, n, os, rfl⟩
 have hperm := (sortC_perm l0).1.1
 have hlen : (sortC l0).length = l0.length := by
  unfold sortC; rw [Array.length_toList]; simpa using hperm
 have hgr := grownBy_sortedK (w := w) (g := g) (n := n) (os := os) (Go.Sort.flatK encC 2 (sortC l0).toArray); refine ⟨rfl, ⟨fun k hk => Or.inl (hok k hk), (Go.Sort.flatK encC 2 (sortC l0).toArray).toList, ⟨?_, Or.inr ⟨g, cap, _, ?_, hbase, heap_sortedK _ hcur, ?_, h2, ?_, ?_⟩⟩, chunk_of _ _ _ _⟩, hB.grown hgr hB.size (fun k hk => by cases hk; exact hbase), Kept.of_grown hgr (Kept.refl w _) (fun k hk => by cases hk; exact Or.inl (hok g rfl))⟩
 ·simp [hlen, hsz]
 ·rw [hlen]
 ·rw [hlen]; exact h1
 ·simp [Go.Sort.putCells, h3, hsz]
 ·have hF2 : (Go.Sort.flatK encC 2 (sortC l0).toArray).size = (sortC l0).length * k49.sz := by simp [hsz]
  rw [← hF2]; exact take_putCellsK cur _ (by rw [hF2, hsz, h3, hlen]; omega)

/-! ### impl_put: function 72 -/
def impl_put.l0 : Nat → List (S49) → List (S49) → Int → Int → Int → Int → Option ((List (S49)))
 | 0, _, _, _, _, _, _ => none
 | k + 1, x4, x13, x14, x15, x309000, x309001 => if x15 < x14 then (if 0 ≤ x15 then (if x15 < (x13.length : Int) then (if x4.length < 8796093022208 then (impl_put.l0 k (x4 ++ [(⟨wrap64 (((rd_T49 x13 x15).f0) - x309000), wrap64 (((rd_T49 x13 x15).f1) - x309001)⟩ : S49)]) x13 x14 (wrap64 (x15 + 1)) x309000 x309001) else (none)) else (none)) else (none)) else ((slices_SortFunc_compareCells.f x4).bind fun t314 => (some t314))
def impl_put.f (k : Nat) (l0 : List (S49)) : Option ((List (S49))) := if (l0.length : Int) = 0 then (some ([] : List (S49))) else ((impl_leastOf.f k l0).bind fun bt303 => (impl_put.l0 k (([] : List (S49))) l0 (l0.length : Int) 0 bt303.1 bt303.2))
theorem impl_put.mono_l : ∀ k, (∀ y0 y1 y2 y3 y4 y5, LeO (impl_put.l0 k y0 y1 y2 y3 y4 y5) (impl_put.l0 (k + 1) y0 y1 y2 y3 y4 y5))
 | 0 => fun _ _ _ _ _ _ r h => by simp [impl_put.l0] at h
 | k + 1 => by
  have ih0 := impl_put.mono_l k
  ·intro y0 y1 y2 y3 y4 y5
   unfold impl_put.l0
   repeat' first
   | (with_reducible exact ih0 _ _ _ _ _ _)
   | (with_reducible exact impl_leastOf.mono _ _)
   | (with_reducible exact LeO.refl _)
   | (with_reducible exact LeO.none _)
   | (with_reducible refine LeO.ite ?_ ?_)
   | (with_reducible refine LeO.bind ?_ (fun _ => ?_))
theorem impl_put.mono : ∀ a0 k, LeO (impl_put.f k a0) (impl_put.f (k + 1) a0) := by
 intro a0 k; have ih0 := impl_put.mono_l k
 unfold impl_put.f
 repeat' first
   | (with_reducible exact ih0 _ _ _ _ _ _)
   | (with_reducible exact impl_leastOf.mono _ _)
   | (with_reducible exact LeO.refl _)
   | (with_reducible exact LeO.none _)
   | (with_reducible refine LeO.ite ?_ ?_)
   | (with_reducible refine LeO.bind ?_ (fun _ => ?_))
set_option maxHeartbeats 8000000 in
set_option maxRecDepth 100000 in
theorem impl_put.calls (k : Nat) (A0 : Option Addr) (c0 : Nat) (l0 : List (S49)) (r : List (S49)) (w : World) (hr0 : Kd.C k49 w A0 l0.length l0) (hc0 : l0.length ≤ c0) (h : impl_put.f k l0 = some r) :
  Calls Try.prog 72 #[.slice A0 l0.length c0] w fun e w' => ∃ v0_ : Value, e = .returned (v0_) ∧ Kd.R k49 49 w' w.heap.size (fun _ => True) v0_ r ∧ Below w.heap.size w w' := by
 have hu49 := Try.underlying49; have HR0 := Aside0.mk hr0; have HC0 := Aside0.mk hc0; clear hr0 hc0; have HB := Aside0.mk (Below.refl w.heap.size w); have H : (if (l0.length : Int) = 0 then (some ([] : List (S49))) else ((impl_leastOf.f k l0).bind fun bt303 => (impl_put.l0 k (([] : List (S49))) l0 (l0.length : Int) 0 bt303.1 bt303.2))) = some r := h; clear h
 by_cases c2 : (l0.length : Int) = 0
 ·rw [if_pos c2] at H
  have c2b0 : ((l0.length : Int) == 0) = true := beq_iff_eq.mpr c2; have c2b1 : ((l0.length : Int) != 0) = false := bne_eq_false_iff_eq.mpr c2; clear c2; obtain rfl := Option.some.inj H
  go_enter Try.func72, Try.ntmps72
  go_wp2; go_ret; exact ⟨_, by first | rfl | (simp [errW_none, errW_some] <;> rfl) | (simp [*, errW_none, errW_some] <;> rfl), by first | exact Kd.R_nil _ _ _ _ _ | exact Kd.N_nil _ _ _ _ _ | exact Kd.V_nil _ _ _ _ _ | exact Kd.Q_nil _ _ _ _ _ | exact Kd.S_nil _ _ _ _ _, by repeat ((with_reducible exact HB.out))⟩
 ·rw [if_neg c2] at H
  have c2b0 : ((l0.length : Int) == 0) = false := beq_eq_false_iff_ne.mpr c2; have c2b1 : ((l0.length : Int) != 0) = true := bne_iff_ne.mpr c2
  have c2b2 : ¬ (l0 = []) := fun h_ => c2 (by rw [h_]; rfl)
  replace H := Option.bind_eq_some_iff.mp H; obtain ⟨⟨t303, t304⟩, A30, H⟩ := H; replace H : (impl_put.l0 k (([] : List (S49))) l0 (l0.length : Int) 0 t303 t304) = some r := H; have A3 := Aside0.mk A30; clear A30; obtain ⟨y305, hy305⟩ : ∃ y_ : List (S49), y_ = (([] : List (S49))) := ⟨_, rfl⟩
  replace H : (impl_put.l0 k y305 l0 (l0.length : Int) 0 t303 t304) = some r := by first | (rw [hy305]; with_reducible exact H) | (have H2_ := (Option.bind_some _ _).symm.trans H; rw [hy305]; with_reducible exact H2_) | (have H2_ := (Option.bind_some _ _).symm.trans H; with_reducible exact H2_) | with_reducible exact H | (rw [hy305]; exact H) | exact H
  have Ny305 := Aside0.mk hy305; clear hy305; have H' := Aside0.mk H; clear H
  go_enter Try.func72, Try.ntmps72
  go_wp2_with (first | ((with_reducible refine gate_callee (f := 96) rfl ?_); refine goesL_ (some 11) rfl rfl Try.func96 (by kernel_rfl) rfl #[.slice A0 l0.length c0] rfl (by (try simp only [List.map_toArray, List.map_cons, List.map_nil]); rfl) ?_; (with_reducible refine (impl_leastOf.calls k _ _ l0 t303 t304 _ ?side1 ?side2 A3.out).mono ?_); (case side1 => repeat (exact HR0.out)); (case side2 => exact HC0.out); rintro e w4 ⟨rfl, hb⟩; refine ⟨_, rfl, ?_⟩; have n0_ := Aside0.mk (below_step (by repeat ((with_reducible exact HB.out))) hb); clear HB; have HB := n0_; clear n0_; (try clear hb); (try clear hb2); (try clear hk); (try clear hi)) | ((with_reducible refine gate_dst (N := 12) rfl ?_); refine Kd.R_lit k49 _ 49 ?hg (N := 12) ?hd (xs := ([] : List (S49))) (inner := []) (ok := fun _ => True) (okp := fun _ => True) ?hr ?hp (fun _ hk => hk) trivial (Below.refl _ _) (Nat.le_refl _) (by simp) ?_; (case hd => rfl); (case hg => rfl); (case hr => (go_simp; done)); (case hp => exact (Reps.none _ _)); intro v306 w5 ho6 hb hg_ hnew_; clear hg_ hnew_; (rw [← Ny305.out] at ho6); have n0_ := Aside0.mk (Kd.R_lower ho6 (below_size (by repeat ((with_reducible exact HB.out))))); have n1_ := Aside0.mk (below_step (by repeat ((with_reducible exact HB.out))) hb); clear HB; have HO307 := n0_; have HB := n1_; clear n0_ n1_; clear hb ho6) | ((with_reducible refine gate_dst (N := 3) rfl ?_); refine box_event ?hg (N := 3) ?hd (cs := #[.int .i64 0, .int .i64 0]) (t := 49) ?hr ?_; (case hd => rfl); (case hg => rfl); (case hr => (go_simp; done)); intro gb308 hg w7 hbox hb; have n0_ := Aside0.mk (Kd.R_below (Kd.R_elderB (by exact HO307.out) gb308 (Nat.le_of_eq hg.symm)) hb); have n1_ := Aside0.mk (below_step (by repeat ((with_reducible exact HB.out))) hb); have n2_ := Aside0.mk (hbox); have n3_ := Aside0.mk ((by rw [hg]; exact (below_size (by repeat ((with_reducible exact HB.out)))) : w.heap.size ≤ gb308)); have n4_ := Aside0.mk ((by rw [hg]; exact (below_size (by repeat ((with_reducible exact HB.out)))) : w.heap.size ≤ gb308)); clear HO307; clear HB; have HO307 := n0_; have HB := n1_; have BK308 := n2_; have GW308 := n3_; have GE308 := n4_; clear n0_ n1_ n2_ n3_ n4_; clear hb hbox hg; have hcz8_0 : w7.cell? ⟨gb308, 0, none⟩ = some (.int .i64 0) := (blk_cell BK308.out 0).trans rfl; have hcz8_1 : w7.cell? ⟨gb308, 1, none⟩ = some (.int .i64 0) := (blk_cell BK308.out 1).trans rfl; have hfz8_0 := blk_frozen BK308.out 0; have hfz8_1 := blk_frozen BK308.out 1))
  (try simp only [Act.put, sA, sZ, sS])
  go_loopg [4, 15] k (fun kq v4 v15 w' => ∃ (x4_1 : List (S49)) (x15_1 : Int), v15 = .int .i64 x15_1 ∧ Aside0 (impl_put.l0 kq x4_1 l0 (l0.length : Int) x15_1 t303 t304 = some r) ∧ Aside0 (kq ≤ k) ∧ Aside0 (Kd.R k49 49 w' w.heap.size (fun k_ => k_ ≠ gb308) v4 x4_1) ∧ Aside0 (w'.heap[gb308]? = some (.cells #[.int .i64 t303, .int .i64 t304] 49 (0, 0))) ∧ Aside0 (Below w.heap.size w w'))
  case atStart => exact ⟨(y305), (0), (by rfl), H', ⟨Nat.le_refl _⟩, ⟨by exact Kd.R_mono (Kd.R_far (p := ⟨gb308, 1, none⟩) (Kd.R_far (p := ⟨gb308, 0, none⟩) (Kd.R_mono HO307.out (fun k_ hk => (⟨hk, hk.2⟩ : _ ∧ k_ ≠ gb308))) (fun _ hk => hk.2) (.int .i64 t303)) (fun _ hk => hk.2) (.int .i64 t304)) (fun _ hk => hk.1.2)⟩, ⟨by refine blk_put (cs := #[.int .i64 t303, .int .i64 0]) ?_ 1 _ rfl; refine blk_put (cs := #[.int .i64 0, .int .i64 0]) ?_ 0 _ rfl; exact BK308.out⟩, ⟨by repeat ((with_reducible first | exact HB.out | refine below_set ?_ GE308.out))⟩⟩
  case round =>
   clear H'; (try clear c2); (try clear c2b0); (try clear c2b1); (try clear c2b2); (try clear p2); (try clear c7); (try clear hcz8_0); (try clear hcz8_1); (try clear hfz8_0); (try clear hfz8_1); obtain ⟨x4_1, x15_1, rfl, HA, HK1, HO_4, BK308, HB⟩ := hrel
   cases gk with
   | zero => exact absurd HA.out (by simp [impl_put.l0])
   | succ k1 =>
    have H := HA.out; clear HA; simp only [impl_put.l0] at H
    by_cases c9 : x15_1 < (l0.length : Int)
    ·rw [if_pos c9] at H
     have c9b0 : decide (x15_1 < (l0.length : Int)) = true := decide_eq_true c9; clear c9
     by_cases c10 : 0 ≤ x15_1
     ·rw [if_pos c10] at H
      have c10b0 : decide (0 ≤ x15_1) = true := decide_eq_true c10; clear c10
      by_cases c11 : x15_1 < (l0.length : Int)
      ·rw [if_pos c11] at H
       have c11b0 : decide (x15_1 < (l0.length : Int)) = true := decide_eq_true c11; clear c11
       by_cases c12 : x4_1.length < 8796093022208
       ·rw [if_pos c12] at H
        have LMc12 := Aside0.mk c12; clear c12; obtain ⟨y311, hy311⟩ : ∃ y_ : List (S49), y_ = (x4_1 ++ [(⟨wrap64 (((rd_T49 l0 x15_1).f0) - t303), wrap64 (((rd_T49 l0 x15_1).f1) - t304)⟩ : S49)]) := ⟨_, rfl⟩
        replace H : (impl_put.l0 k1 y311 l0 (l0.length : Int) (wrap64 (x15_1 + 1)) t303 t304) = some r := by first | (rw [hy311]; with_reducible exact H) | (have H2_ := (Option.bind_some _ _).symm.trans H; rw [hy311]; with_reducible exact H2_) | (have H2_ := (Option.bind_some _ _).symm.trans H; with_reducible exact H2_) | with_reducible exact H | (rw [hy311]; exact H) | exact H
        have Ny311 := Aside0.mk hy311; clear hy311; have H' := Aside0.mk H; clear H; have p309 : 0 ≤ (x15_1 : Int) := of_decide_eq_true (by (with_reducible assumption)); have q309 : x15_1 < (l0.length : Int) := of_decide_eq_true (by (with_reducible assumption)); obtain ⟨ad309, e309, hx309_0, hx309_1⟩ := at_T49 HR0.out x15_1 p309 q309; cases e309; replace hx309_0 := (HB.out.cell (World.block_lt_of_cell? w _ hx309_0)).trans hx309_0; replace hx309_1 := (HB.out.cell (World.block_lt_of_cell? w _ hx309_1)).trans hx309_1; replace p309 := eq_true p309; replace q309 := eq_true q309
        go_wp2_with (first | ((with_reducible refine gate_dst (N := 6) rfl ?_); refine box_event ?hg (N := 6) ?hd (cs := #[.int .i64 0, .int .i64 0]) (t := 49) ?hr ?_; (case hd => rfl); (case hg => rfl); (case hr => (go_simp; done)); intro gb310 hg w13 hbox hb; have n0_ := Aside0.mk (Kd.R_below (Kd.R_elderB (by exact HO_4.out) gb310 (Nat.le_of_eq hg.symm)) hb); have n1_ := Aside0.mk (blk_below (g := gb308) (o := .cells #[.int .i64 t303, .int .i64 t304] 49 (0, 0)) (by exact BK308.out) hb); have n2_ := Aside0.mk (below_step (by repeat ((with_reducible exact HB.out))) hb); have n3_ := Aside0.mk (hbox); have n4_ := Aside0.mk ((by rw [hg]; exact (below_size (by repeat ((with_reducible exact HB.out)))) : w.heap.size ≤ gb310)); have n5_ := Aside0.mk ((by rw [hg]; exact (below_size (by repeat ((with_reducible exact HB.out)))) : w.heap.size ≤ gb310)); have n6_ := Aside0.mk ((by rw [hg]; exact Nat.ne_of_lt (blk_lt (g := gb308) (o := .cells #[.int .i64 t303, .int .i64 t304] 49 (0, 0)) (by exact BK308.out)) : gb308 ≠ gb310)); have n7_ := Aside0.mk ((by rw [hg]; exact Nat.ne_of_gt (blk_lt (g := gb308) (o := .cells #[.int .i64 t303, .int .i64 t304] 49 (0, 0)) (by exact BK308.out)) : gb310 ≠ gb308)); clear HO_4; clear BK308; clear HB; have HO_4 := n0_; have BK308 := n1_; have HB := n2_; have BK310 := n3_; have GW310 := n4_; have GE310 := n5_; have NB308_310 := n6_; have NB310_308 := n7_; clear n0_ n1_ n2_ n3_ n4_ n5_ n6_ n7_; clear hb hbox hg; have hnb14 := NB310_308.out; have hnc14 := NB308_310.out; have hcz15_0 : w13.cell? ⟨gb310, 0, none⟩ = some (.int .i64 0) := (blk_cell BK310.out 0).trans rfl; have hcz15_1 : w13.cell? ⟨gb310, 1, none⟩ = some (.int .i64 0) := (blk_cell BK310.out 1).trans rfl; have hfz15_0 := blk_frozen BK310.out 0; have hfz15_1 := blk_frozen BK310.out 1; have hcz16_0 : w13.cell? ⟨gb308, 0, none⟩ = some (.int .i64 t303) := (blk_cell BK308.out 0).trans rfl; have hcz16_1 : w13.cell? ⟨gb308, 1, none⟩ = some (.int .i64 t304) := (blk_cell BK308.out 1).trans rfl; have hfz16_0 := blk_frozen BK308.out 0; have hfz16_1 := blk_frozen BK308.out 1) | ((with_reducible refine gate_builtin (b := .append) (xs := #[.tmp 19, .tmp 31]) rfl ?_); at_builtin; refine Kd.R_append k49 (w0 := w) w.heap.size rfl (.tmp 19) (.tmp 31) 22 49 (.agg #[(.int .i64 0), (.int .i64 0)]) 16 rfl Try.underlying22 info49 rfl (by decide) (by omega) u4 x4_1 (⟨wrap64 (((rd_T49 l0 x15_1).f0) - t303), wrap64 (((rd_T49 l0 x15_1).f1) - t304)⟩ : S49) [.int .i64 (wrap64 (((rd_T49 l0 x15_1).f0) - t303)), .int .i64 (wrap64 (((rd_T49 l0 x15_1).f1) - t304))] (fun k_ => k_ ≠ gb308 ∧ k_ ≠ gb310) (fun _ => False) rfl (by (go_simp; done)) ?aP (fun _ hk => hk.elim) ?aF ?aO ?aB ?aS ?aL ?_; (case aP => exact k49_mkM _ _ _ (⟨wrap64 (((rd_T49 l0 x15_1).f0) - t303), wrap64 (((rd_T49 l0 x15_1).f1) - t304)⟩ : S49)); (case aB => exact (by repeat ((with_reducible first | exact HB.out | refine below_set ?_ GE310.out)))); (case aF => exact (fun k_ hk => ⟨Kd.freshB (g := gb308) (o := .cells #[.int .i64 t303, .int .i64 t304] 49 (0, 0)) (by refine blk_far ?_ NB308_310.out _; refine blk_far ?_ NB308_310.out _; exact BK308.out) k_ hk, Kd.freshB (g := gb310) (o := .cells #[.int .i64 ((rd_T49 l0 x15_1).f0), .int .i64 ((rd_T49 l0 x15_1).f1)] 49 (0, 0)) (by refine blk_put (cs := #[.int .i64 ((rd_T49 l0 x15_1).f0), .int .i64 0]) ?_ 1 _ rfl; refine blk_put (cs := #[.int .i64 0, .int .i64 0]) ?_ 0 _ rfl; exact BK310.out) k_ hk⟩)); (case aO => exact (by exact Kd.R_mono (Kd.R_far (p := ⟨gb310, 1, none⟩) (Kd.R_far (p := ⟨gb310, 0, none⟩) (Kd.R_mono HO_4.out (fun k_ hk => (⟨hk, hk.2⟩ : _ ∧ k_ ≠ gb310))) (fun _ hk => hk.2) (.int .i64 ((rd_T49 l0 x15_1).f0))) (fun _ hk => hk.2) (.int .i64 ((rd_T49 l0 x15_1).f1))) (fun _ hk => ⟨hk.1.1, hk.1.2⟩))); (case aS => exact (below_size (by repeat ((with_reducible first | exact HB.out | refine below_set ?_ GE310.out))))); (case aL => have := LMc12.out; omega); intro v312 w17 ho hb hg hat; rw [← Ny311.out] at ho; have n0_ := Aside0.mk (blk_grown (g := gb308) (o := .cells #[.int .i64 t303, .int .i64 t304] 49 (0, 0)) (by refine blk_far ?_ NB308_310.out _; refine blk_far ?_ NB308_310.out _; exact BK308.out) hg (Kd.R_away HO_4.out (fun _ hk => hk.1))); have n1_ := Aside0.mk (blk_grown (g := gb310) (o := .cells #[.int .i64 ((rd_T49 l0 x15_1).f0), .int .i64 ((rd_T49 l0 x15_1).f1)] 49 (0, 0)) (by refine blk_put (cs := #[.int .i64 ((rd_T49 l0 x15_1).f0), .int .i64 0]) ?_ 1 _ rfl; refine blk_put (cs := #[.int .i64 0, .int .i64 0]) ?_ 0 _ rfl; exact BK310.out) hg (Kd.R_away HO_4.out (fun _ hk => hk.2))); have n2_ := Aside0.mk (hb); have n3_ := Aside0.mk (ho); clear BK308; clear BK310; clear HB; clear HO_4; have BK308 := n0_; have BK310 := n1_; have HB := n2_; have HO313 := n3_; clear n0_ n1_ n2_ n3_; clear ho hb hg hat))
        go_roundg k1
        case measure => have := HK1.out; omega
        case rel => exact ⟨(y311), (wrap64 (x15_1 + 1)), (by rfl), H', ⟨by have := HK1.out; omega⟩, ⟨by exact Kd.R_mono HO313.out (fun _ hk => hk.1)⟩, ⟨by exact BK308.out⟩, ⟨by repeat ((with_reducible exact HB.out))⟩⟩
       ·rw [if_neg c12] at H
        exact absurd H (by simp)
      ·rw [if_neg c11] at H
       exact absurd H (by simp)
     ·rw [if_neg c10] at H
      exact absurd H (by simp)
    ·rw [if_neg c9] at H
     have c9b0 : decide (x15_1 < (l0.length : Int)) = false := decide_eq_false c9; clear c9; replace H := Option.bind_eq_some_iff.mp H; obtain ⟨t314, A180, H⟩ := H; replace H : (some t314) = some r := H; have A18 := Aside0.mk A180; clear A180; obtain rfl := Option.some.inj H; obtain ⟨Ao19, co19, eo19⟩ := Kd.R_slice HO_4.out; subst eo19
     go_wp2_with (((with_reducible refine gate_callee (f := 111) rfl ?_); refine goesL_ (some 35) rfl rfl Try.func111 (by kernel_rfl) rfl #[.slice Ao19 x4_1.length co19, .func (.func 84) #[] #[]] rfl (by (try simp only [List.map_toArray, List.map_cons, List.map_nil]); rfl) ?_; (with_reducible refine (slices_SortFunc_compareCells.calls (fun k_ => some k_ = (.slice Ao19 x4_1.length co19 : Value).ownBlock) (.slice Ao19 x4_1.length co19) x4_1 t314 w _ ?side1 ?side2 A18.out).mono ?_); (case side1 => repeat ((with_reducible exact HB.out))); (case side2 => exact Kd.R_tight rfl HO_4.out); rintro e w20 ⟨rfl, hy0, hb, hkp⟩; refine ⟨_, rfl, ?_⟩; have n0_ := Aside0.mk (Kd.R_reok rfl hy0 (fun k_ e_ => HO_4.out.1 k_ e_)); have n1_ := Aside0.mk (blk_kept (by exact BK308.out) hkp (fun hs_ => (fun e_ => (Kd.R_away HO_4.out (fun _ hk => hk)) e_) hs_)); have n2_ := Aside0.mk (hb); clear HO_4; clear BK308; clear HB; have HO_4 := n0_; have BK308 := n1_; have HB := n2_; clear n0_ n1_ n2_; (try clear hb); (try clear hkp); (try clear hy0)))
     go_ret; exact ⟨_, by first | rfl | (simp [errW_none, errW_some] <;> rfl) | (simp [*, errW_none, errW_some] <;> rfl), by exact Kd.R_mono HO_4.out (fun _ hk => trivial), by repeat ((with_reducible exact HB.out))⟩

end Go.Proofs.Ytckhmeadflafaaa.XFs
