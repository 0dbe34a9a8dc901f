/- Functions of the program as plain Lean functions, each with the proof that the machine's call does what it says: written by a program of this session out of the translation. -/
import Derived.Shelf.SlSortCmp.WholeK
import Derived.Sort.AssemblyPlain
import Derived.Test.YtckhmeadflafaaaSortLay
import Derived.Test.YtckhmeadflafaaaXCbx0
import Derived.Test.YtckhmeadflafaaaXCbx2
namespace Go.Proofs.Ytckhmeadflafaaa.XCb
open Go.RowKit Go.Proofs.YtckhmeadflafaaaW.PrintWords Go.Proofs.YtckhmeadflafaaaW.PrintLast Go.Proofs.YtckhmeadflafaaaW.PrintMore
attribute [local go_sem] max2_int min2_int max_two min_two max_three min_three max_four min_four   -- for this text's walks alone
set_option linter.unusedVariables false
set_option linter.unusedSimpArgs false

/-! ### slices_SortFunc_compareCells: function 111, by hand -/
def cmpC (x y : S49) : Int := if x.f0 < y.f0 then -1 else if x.f0 > y.f0 then 1 else if x.f1 < y.f1 then -1 else if x.f1 > y.f1 then 1 else 0
theorem ltC_eq (x y : S49) : ltOf cmpC x y = decide (x.f0 < y.f0 ∨ (x.f0 = y.f0 ∧ x.f1 < y.f1)) := by
 unfold ltOf cmpC
 split
 ·next h => simp [h]
 ·split
  ·next h h2 => simp; omega
  ·split
   ·next h h2 h3 => simp; omega
   ·split
    ·next h h2 h3 h4 => simp; omega
    ·next h h2 h3 h4 => simp; omega
theorem swoC : Go.Sort.SWO (ltOf cmpC) where
 irrefl x := by rw [ltC_eq]; simp
 trans x y z h1 h2 := by rw [ltC_eq] at *; simp only [decide_eq_true_eq] at *; omega
 ntrans x y z h1 h2 := by rw [ltC_eq] at *; simp only [decide_eq_false_iff_not] at *; omega
instance : Inhabited S49 := ⟨⟨0, 0⟩⟩
def encC (x : S49) : List Value := [.int .i64 x.f0, .int .i64 x.f1]
/-- The list as the library's sort leaves it. -/
def sortC (l : List (S49)) : List (S49) := (Go.Sort.pdq (ltOf cmpC) l.toArray 0 l.toArray.size (Go.Lib.bitLen l.toArray.size) true true).toList
def slices_SortFunc_compareCells.f (l0 : List (S49)) : Option (List (S49)) := if 0 < l0.length ∧ l0.length < 4611686018427387904 then some (sortC l0) else none
theorem sortC_perm (l : List (S49)) : Go.Sort.PermIn 0 l.toArray.size l.toArray (Go.Sort.pdq (ltOf cmpC) l.toArray 0 l.toArray.size (Go.Lib.bitLen l.toArray.size) true true) ∧ Go.Sort.SortedIn (ltOf cmpC) 0 l.toArray.size (Go.Sort.pdq (ltOf cmpC) l.toArray 0 l.toArray.size (Go.Lib.bitLen l.toArray.size) true true) := Go.Sort.pdq_sorts (ltOf cmpC) swoC l.toArray 0 l.toArray.size (Go.Lib.bitLen l.toArray.size) true true (Nat.zero_le _) (Nat.le_refl _) (Or.inl rfl)

theorem enc_len (x : S49) : (encC x).length = 2 := rfl
theorem chunk_at {l : List (S49)} {inner : List Value} {w : World} {base : Nat} {ok : Nat → Prop} (h : Reps (k49.M w base ok) k49.sz l inner) : inner = (Go.Sort.flatK encC 2 l.toArray).toList := by
 obtain ⟨hl, hc⟩ := h; have hsz : k49.sz = 2 := rfl; rw [hsz] at hl hc
 apply List.ext_getElem?
 intro t
 by_cases ht : t < l.length * 2
 ·have hj : t / 2 < l.length := by omega
  have hm := k49_openM (hc (t / 2) _ (List.getElem?_eq_getElem hj))
  have h1 : ((inner.drop (t / 2 * 2)).take 2)[t % 2]? = inner[t]? := by
   rw [List.getElem?_take_of_lt (by omega), List.getElem?_drop]
   congr 1; omega
  rw [← h1, hm]
  have h2 : t < l.toArray.size * 2 := by simpa using ht
  have h2' : t < (Go.Sort.flatK encC 2 l.toArray).size := by simpa using h2
  rw [show (Go.Sort.flatK encC 2 l.toArray).toList[t]? = (Go.Sort.flatK encC 2 l.toArray)[t]? from Array.getElem?_toList, Array.getElem?_eq_getElem h2']; have h3 := Go.Sort.get_flatK encC 2 l.toArray t h2; rw [getElem!_pos (Go.Sort.flatK encC 2 l.toArray) t h2'] at h3; rw [h3, getElem!_pos _ (t / 2) (by simpa using hj)]
  have h4 : t % 2 = 0 ∨ t % 2 = 1 := by omega
  rcases h4 with h4 | h4 <;> rw [h4] <;> simp [encC]
 ·rw [List.getElem?_eq_none (by omega), List.getElem?_eq_none (by simp; omega)]
theorem chunk_of (l : List (S49)) (w : World) (base : Nat) (ok : Nat → Prop) : Reps (k49.M w base ok) k49.sz l (Go.Sort.flatK encC 2 l.toArray).toList := by
 have hsz : k49.sz = 2 := rfl; rw [hsz]; refine ⟨by simp, fun j p hj => ?_⟩; obtain ⟨hjl, hp⟩ := List.getElem?_eq_some_iff.1 hj
 have e : (((Go.Sort.flatK encC 2 l.toArray).toList.drop (j * 2)).take 2) = encC p := by
  apply List.ext_getElem?
  intro t
  by_cases ht : t < 2
  ·rw [List.getElem?_take_of_lt ht, List.getElem?_drop]
   have h2 : j * 2 + t < l.toArray.size * 2 := by simp; omega
   rw [Array.getElem?_toList, Array.getElem?_eq_getElem (by simpa using h2)]; have h3 := Go.Sort.get_flatK encC 2 l.toArray (j * 2 + t) h2; rw [getElem!_pos _ _ (by simpa using h2)] at h3; rw [h3, show (j * 2 + t) / 2 = j by omega, show (j * 2 + t) % 2 = t by omega, getElem!_pos _ j (by simpa using hjl)]
   have : l.toArray[j]'(by simpa using hjl) = p := by simpa using hp
   rw [this]
   have h4 : t = 0 ∨ t = 1 := by omega
   rcases h4 with h4 | h4 <;> subst h4 <;> simp [encC]
  ·rw [List.getElem?_take_eq_none (by omega), List.getElem?_eq_none (by simp [encC]; omega)]
 rw [e]; exact k49_mkM w base ok p
theorem holds_cells {w : World} {g : Nat} {cur : Array Value} {e : TypeId} {F : Array Value} (hb : w.heap[g]? = some (.cells cur e (0, 0))) (ht : cur.toList.take F.size = F.toList) : Go.Sort.Holds id w g 0 F := by
 intro j hj; refine ⟨?_, by simp [World.frozen?, hb]⟩
 have h1 : (cur.toList.take F.size)[j]? = F.toList[j]? := by rw [ht]
 rw [List.getElem?_take_of_lt hj] at h1; simp only [World.cell?, hb, Nat.zero_add]; simp only [Option.isSome_none, Bool.false_eq_true, if_false]; rw [← Array.getElem?_toList, h1, Array.getElem?_toList, Array.getElem?_eq_getElem hj, getElem!_pos _ j hj]
 rfl
theorem heap_sortedK {w : World} {g n : Nat} {os : Array Obj} {cur : Array Value} {e : TypeId} {fr : Nat × Nat} (F : Array Value) (hb : w.heap[g]? = some (.cells cur e fr)) :
  (Go.Sort.grow (Go.Sort.putRow id (Go.Sort.ahead w n) g 0 F) os).heap[g]? = some (.cells (Go.Sort.putCells id 0 F cur) e fr) := by
 have hg : g < w.heap.size := (Array.getElem?_eq_some_iff.1 hb).1; rw [Go.Sort.heap_grow_old _ _ (by simpa using hg)]
 simp [Go.Sort.putRow, Go.Sort.mapBlock, Go.Sort.ahead, Array.getElem?_modify, hb, Go.Sort.onCells]
theorem grownBy_sortedK {w : World} {g n : Nat} {os : Array Obj} (F : Array Value) : w.grownBy (Go.Sort.grow (Go.Sort.putRow id (Go.Sort.ahead w n) g 0 F) os) (some g) := by
 refine ⟨rfl, rfl, rfl, by simp, fun k hk hne => ?_⟩; rw [Go.Sort.heap_grow_old _ _ (by simpa using hk)]
 have : g ≠ k := fun e => hne (by rw [e])
 simp [Go.Sort.putRow, Go.Sort.mapBlock, Go.Sort.ahead, Array.getElem?_modify, this]
theorem take_putCellsK (cur F : Array Value) (h : F.size ≤ cur.size) : (Go.Sort.putCells id 0 F cur).toList.take F.size = F.toList := by
 apply List.ext_getElem?
 intro j
 by_cases hj : j < F.size
 ·rw [List.getElem?_take_of_lt hj, Array.getElem?_toList]
  simp [Go.Sort.putCells, hj, show j < cur.size by omega]
 ·rw [List.getElem?_take_eq_none (by omega), List.getElem?_eq_none (by simpa using hj)]
set_option maxHeartbeats 2000000 in
set_option maxRecDepth 100000 in
theorem impl_compareCells.callsG (k : Nat) (a0_0 a0_1 a1_0 a1_1 r : Int) (w : World) (h : impl_compareCells.f k a0_0 a0_1 a1_0 a1_1 = some r) :
  Calls Try.prog 84 #[.agg #[.int .i64 a0_0, .int .i64 a0_1], .agg #[.int .i64 a1_0, .int .i64 a1_1]] w fun e w' => e = .returned (.int .i64 r) ∧ ∃ q os', w' = Go.Sort.grow (w.drewN q) os' := by
 obtain ⟨W2, hW2⟩ : ∃ W2, W2 = ((w.alloc (Obj.cells #[Value.int IntKind.i64 a0_0, Value.int IntKind.i64 a0_1] 49)).alloc (Obj.cells #[Value.int IntKind.i64 a1_0, Value.int IntKind.i64 a1_1] 49)) := ⟨_, rfl⟩
 have g0 : W2.heap[w.heap.size]? = some (Obj.cells #[Value.int IntKind.i64 a0_0, Value.int IntKind.i64 a0_1] 49) := by
  rw [hW2, heap_alloc_old]
  ·exact heap_alloc_new w _
  ·show w.heap.size < (w.heap.push _).size
   simp
 have g1 : W2.heap[w.heap.size + 1]? = some (Obj.cells #[Value.int IntKind.i64 a1_0, Value.int IntKind.i64 a1_1] 49) := by
  rw [hW2]; exact heap_alloc2_new w _ _
 have hB : Below w.heap.size w W2 := by
  rw [hW2]; repeat (first | exact Below.refl _ _ | apply below_alloc | apply pw_below_drewN | apply below_drew1)
 have hC0 : Kd.C (Kd.int .i64) W2 (some ⟨w.heap.size, 0, none⟩) ([a0_0, a0_1] : List Int).length [a0_0, a0_1] := Kd.C_of_reads (enc := Value.int .i64) (d := 0) (h1 := fun _ => rfl) ⟨rfl, (by show 2 ≤ 9223372036854775807; omega), fun _ => ⟨_, rfl, fun j hj => by
  rcases (show j = 0 ∨ j = 1 by simp at hj; omega) with rfl | rfl
  ·simp [World.cell?, Addr.add, g0]
  ·simp [World.cell?, Addr.add, g0]⟩⟩
 have hC1 : Kd.C (Kd.int .i64) W2 (some ⟨w.heap.size + 1, 0, none⟩) ([a1_0, a1_1] : List Int).length [a1_0, a1_1] := Kd.C_of_reads (enc := Value.int .i64) (d := 0) (h1 := fun _ => rfl) ⟨rfl, (by show 2 ≤ 9223372036854775807; omega), fun _ => ⟨_, rfl, fun j hj => by
  rcases (show j = 0 ∨ j = 1 by simp at hj; omega) with rfl | rfl
  ·simp [World.cell?, Addr.add, g1]
  ·simp [World.cell?, Addr.add, g1]⟩⟩
 have hcall : ∀ n : Nat, Calls Try.prog 117 #[.slice (some ⟨w.heap.size, 0, none⟩) 2 2, .slice (some ⟨w.heap.size + 1, 0, none⟩) 2 2] (W2.drewN n) fun e w' => e = .returned (.int .i64 r) ∧ Drawn0 (W2.drewN n) w' := fun n => slices_Compare.calls k _ _ [a0_0, a0_1] _ _ [a1_0, a1_1] r _ (Kd.C_drewN hC0 n) (Nat.le_refl 2) (Kd.C_drewN hC1 n) (Nat.le_refl 2) h
 subst hW2
 go_enter Try.func84, Try.ntmps84
 go_wp2

 go_quiet (first | (go_at_call 117; refine (hcall _).mono ?_; rintro e w' ⟨rfl, ⟨nd, rfl⟩⟩; (try first | exact ⟨rfl, _, World.drewN_drewN _ _ _⟩ | exact ⟨rfl, _, Eq.trans (World.drewN_drewN _ _ _) (congrArg (World.drewN _) (Nat.add_assoc _ _ _))⟩)))
 go_wp2; go_ret; exact ⟨rfl, _, _, by rw [Go.Sort.alloc_eq_grow, Go.Sort.alloc_eq_grow, Go.Sort.grow_grow]; rfl⟩

theorem below_grownC (w : World) (q : Nat) (os : Array Obj) : Below w.heap.size w (Go.Sort.grow (w.drewN q) os) := ⟨rfl, rfl, rfl, by simp [Go.Sort.grow], fun k hk => Go.Sort.heap_grow_old (w.drewN q) os hk⟩
theorem compareCells_val (x y : S49) : impl_compareCells.f 4 x.f0 x.f1 y.f0 y.f1 = some (cmpC x y) := by
 unfold impl_compareCells.f slices_Compare.f cmpC
 have e0 : rd [x.f0, x.f1] 0 = x.f0 := rfl; have e1 : rd [x.f0, x.f1] 1 = x.f1 := rfl; have e2 : rd [y.f0, y.f1] 0 = y.f0 := rfl; have e3 : rd [y.f0, y.f1] 1 = y.f1 := rfl
 have w0 : wrap64 ((0 : Int) + 1) = 1 := by unfold wrap64; omega
 have w1 : wrap64 ((1 : Int) + 1) = 2 := by unfold wrap64; omega
 have cmp : ∀ a b : Int, cmp_Compare.f a b = some (if a < b then -1 else if a > b then 1 else 0) := by
  intro a b
  unfold cmp_Compare.f cmp_isNaN.f
  simp only [bne_self_eq_false, Option.bind_some, if_neg Bool.false_ne_true]
  split
  ·rfl
  ·split <;> rfl
 simp only [slices_Compare.l0, cmp, e0, e1, e2, e3, w0, w1, Option.bind_some]
 simp
 by_cases h0 : x.f0 < y.f0
 ·simp [h0]
 ·by_cases h1 : y.f0 < x.f0
  ·simp [h0, h1]
  ·by_cases h2 : x.f1 < y.f1
   ·simp [h0, h1, h2]
   ·by_cases h3 : y.f1 < x.f1 <;> simp [h0, h1, h2, h3]

set_option maxHeartbeats 2000000 in
set_option maxRecDepth 100000 in
theorem slices_SortFunc_compareCells.calls (P0_ : Nat → Prop) (u9000_ : Value) (l0 : List (S49)) (r : List (S49)) (w0 w : World) (hB : Below w0.heap.size w0 w) (ho0 : Kd.R k49 49 w w0.heap.size P0_ u9000_ l0) (h : slices_SortFunc_compareCells.f l0 = some r) :
  Calls Try.prog 111 #[u9000_, .func (.func 84) #[] #[]] w fun e w' => e = .returned (.tuple #[]) ∧ Kd.R k49 49 w' w0.heap.size (fun k_ => (P0_ k_ ∨ w.heap.size ≤ k_)) u9000_ r ∧ Below w0.heap.size w0 w' ∧ Kept w w' (fun k_ => P0_ k_) := by
 unfold slices_SortFunc_compareCells.f at h
 by_cases hz : ¬ (0 < l0.length ∧ l0.length < 4611686018427387904)
 ·rw [if_neg hz] at h; cases h
 replace hz := Classical.not_not.1 hz; rw [if_pos hz] at h; obtain rfl := Option.some.inj h; obtain ⟨hok, inner, ⟨ho1, ho2⟩, hr⟩ := ho0
 rcases ho2 with ⟨_, hn⟩ | ⟨g, cap, cur, rfl, hbase, hcur, h1, h2, h3, h4⟩
 ·omega
 have hin := chunk_at hr; have hsz : k49.sz = 2 := rfl; rw [hsz] at h3 h4
 have hF : (Go.Sort.flatK encC 2 l0.toArray).size = l0.length * 2 := by simp
 have hH : Go.Sort.HoldsK encC 2 w g 0 l0.toArray := holds_cells hcur (by rw [hF, h4, hin]); have hblk : g < w.heap.size := (Array.getElem?_eq_some_iff.1 hcur).1
 have hbig : l0.toArray.size < 4611686018427387904 := by
  simpa using hz.2
 have eg : ∀ args W, (callFunc 84 args).run Try.prog W = .ok (.enter 84 args) W := enters_of Try.func84 (by kernel_rfl) rfl
 have hcmp : CmpLays Try.prog 84 #[] encC 2 cmpC g 0 l0.toArray.size w := fun m os dk hs x y => impl_compareCells.callsG 4 x.f0 x.f1 y.f0 y.f1 (cmpC x y) _ (compareCells_val x y)
 have hcon := AnyQ.slices_SortFunc_eq Try.sortCells 2 Try.isAgg49 Try.sizeOf49 encC enc_len (fun x v hv => by simp [encC] at hv; rcases hv with rfl | rfl <;> rfl) cmpC swoC 84 #[] g 0 cap l0.toArray w eg hcmp hH hblk hbig
 have hcon2 : Calls Try.prog 111 #[.slice (some ⟨g, 0, none⟩) l0.length cap, .func (.func 84) #[] #[]] w fun e w' => e = .returned (.tuple #[]) ∧ ∃ n os, w' = sortWorldK encC 2 w g 0 n (sortC l0).toArray os := hcon
 refine hcon2.mono ?_
 rintro e w' ⟨rfl, n, os, rfl⟩
 have hperm := (sortC_perm l0).1.1
 have hlen : (sortC l0).length = l0.length := by
  unfold sortC; rw [Array.length_toList]; simpa using hperm
 have hgr := grownBy_sortedK (w := w) (g := g) (n := n) (os := os) (Go.Sort.flatK encC 2 (sortC l0).toArray); refine ⟨rfl, ⟨fun k hk => Or.inl (hok k hk), (Go.Sort.flatK encC 2 (sortC l0).toArray).toList, ⟨?_, Or.inr ⟨g, cap, _, ?_, hbase, heap_sortedK _ hcur, ?_, h2, ?_, ?_⟩⟩, chunk_of _ _ _ _⟩, hB.grown hgr hB.size (fun k hk => by cases hk; exact hbase), Kept.of_grown hgr (Kept.refl w _) (fun k hk => by cases hk; exact Or.inl (hok g rfl))⟩
 ·simp [hlen, hsz]
 ·rw [hlen]
 ·rw [hlen]; exact h1
 ·simp [Go.Sort.putCells, h3, hsz]
 ·have hF2 : (Go.Sort.flatK encC 2 (sortC l0).toArray).size = (sortC l0).length * k49.sz := by simp [hsz]
  rw [← hF2]; exact take_putCellsK cur _ (by rw [hF2, hsz, h3, hlen]; omega)

end Go.Proofs.Ytckhmeadflafaaa.XCb
