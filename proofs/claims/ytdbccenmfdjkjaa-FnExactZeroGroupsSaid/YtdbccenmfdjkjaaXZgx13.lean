/- Functions of the program as plain Lean functions, each with the proof that the machine's call does what it says: written by a program of this session out of the translation. -/
import Derived.Shelf.SlSortCmp.Whole1
import Derived.Sort.AssemblyPlain
import Derived.Test.YtdbccenmfdjkjaaSortLay
import Derived.Test.YtdbccenmfdjkjaaXZgx0
import Derived.Test.YtdbccenmfdjkjaaXZgx10
namespace Go.Proofs.Ytdbccenmfdjkjaa.XZg
open Go.RowKit Go.Proofs.YtdbccenmfdjkjaaW.PrintWords Go.Proofs.YtdbccenmfdjkjaaW.PrintLast Go.Proofs.YtdbccenmfdjkjaaW.PrintMore
attribute [local go_sem] max2_int min2_int max_two min_two max_three min_three max_four min_four   -- for this text's walks alone
set_option linter.unusedVariables false
set_option linter.unusedSimpArgs false

/-! ### impl_zeroGroups: function 43, by hand -/
-- needs 67
/-! the order of groups -/
def lxG : List Int → List Int → Bool
 | a :: x, b :: y => decide (a < b) || (decide (a = b) && lxG x y)
 | [], _ :: _ => true
 | _, [] => false
theorem lxG_irrefl : ∀ x, lxG x x = false := by
 intro x
 induction x with
 | nil => rfl
 | cons a x ih => simp [lxG, ih]
theorem lxG_trans : ∀ x y z, lxG x y = true → lxG y z = true → lxG x z = true := by
 intro x
 induction x with
 | nil => intro y z h1 h2; cases y with
  | nil => simp [lxG] at h1
  | cons b y => cases z with
   | nil => simp [lxG] at h2
   | cons c z => rfl
 | cons a x ih => intro y z h1 h2; cases y with
  | nil => simp [lxG] at h1
  | cons b y => cases z with
   | nil => simp [lxG] at h2
   | cons c z =>
    simp only [lxG, Bool.or_eq_true, Bool.and_eq_true, decide_eq_true_eq] at h1 h2 ⊢
    rcases h1 with h1 | ⟨h1, h1'⟩
    ·rcases h2 with h2 | ⟨h2, h2'⟩
     ·exact Or.inl (by omega)
     ·exact Or.inl (by omega)
    ·rcases h2 with h2 | ⟨h2, h2'⟩
     ·exact Or.inl (by omega)
     ·exact Or.inr ⟨by omega, ih y z h1' h2'⟩
theorem lxG_anti : ∀ x y, lxG x y = false → lxG y x = false → x = y := by
 intro x
 induction x with
 | nil => intro y h1 h2; cases y with
  | nil => rfl
  | cons b y => simp [lxG] at h1
 | cons a x ih => intro y h1 h2; cases y with
  | nil => simp [lxG] at h2
  | cons b y =>
   simp only [lxG, Bool.or_eq_false_iff, Bool.and_eq_false_iff, decide_eq_false_iff_not] at h1 h2
   have hab : a = b := by omega
   subst hab; have e := ih y (h1.2.resolve_left (fun q => q rfl)) (h2.2.resolve_left (fun q => q rfl)); rw [e]
theorem lxG_total (x y : List Int) (h : lxG x y = false) : x = y ∨ lxG y x = true := by
 cases h2 : lxG y x with
 | true => exact Or.inr rfl
 | false => exact Or.inl (lxG_anti x y h h2)
theorem lxG_ntrans : ∀ x y z, lxG x y = false → lxG y z = false → lxG x z = false := by
 intro x y z h1 h2
 rcases lxG_total x y h1 with rfl | h1'
 ·exact h2
 ·rcases lxG_total y z h2 with rfl | h2'
  ·exact h1
  ·cases h3 : lxG x z with
   | false => rfl
   | true =>
    have := lxG_trans _ _ _ h3 (lxG_trans _ _ _ h2' h1'); rw [lxG_irrefl] at this; cases this
/-- Less: shorter, or as long and ahead by the first places that differ. -/
def ltG (x y : List Int) : Bool := decide (x.length < y.length) || (decide (x.length = y.length) && lxG x y)
theorem ltG_irrefl (x : List Int) : ltG x x = false := by simp [ltG, lxG_irrefl]
theorem ltG_trans (x y z : List Int) (h1 : ltG x y = true) (h2 : ltG y z = true) : ltG x z = true := by
 simp only [ltG, Bool.or_eq_true, Bool.and_eq_true, decide_eq_true_eq] at h1 h2 ⊢
 rcases h1 with h1 | ⟨h1, h1'⟩
 ·rcases h2 with h2 | ⟨h2, h2'⟩
  ·exact Or.inl (by omega)
  ·exact Or.inl (by omega)
 ·rcases h2 with h2 | ⟨h2, h2'⟩
  ·exact Or.inl (by omega)
  ·exact Or.inr ⟨by omega, lxG_trans _ _ _ h1' h2'⟩
theorem ltG_anti (x y : List Int) (h1 : ltG x y = false) (h2 : ltG y x = false) : x = y := by
 simp only [ltG, Bool.or_eq_false_iff, Bool.and_eq_false_iff, decide_eq_false_iff_not] at h1 h2
 have hl : x.length = y.length := by omega
 exact lxG_anti x y (h1.2.resolve_left (fun q => q hl)) (h2.2.resolve_left (fun q => q hl.symm))
theorem ltG_total (x y : List Int) (h : ltG x y = false) : x = y ∨ ltG y x = true := by
 cases h2 : ltG y x with
 | true => exact Or.inr rfl
 | false => exact Or.inl (ltG_anti x y h h2)
theorem ltG_ntrans (x y z : List Int) (h1 : ltG x y = false) (h2 : ltG y z = false) : ltG x z = false := by
 rcases ltG_total x y h1 with rfl | h1'
 ·exact h2
 ·rcases ltG_total y z h2 with rfl | h2'
  ·exact h1
  ·cases h3 : ltG x z with
   | false => rfl
   | true =>
    have := ltG_trans _ _ _ h3 (ltG_trans _ _ _ h2' h1'); rw [ltG_irrefl] at this; cases this
/-- Groups in order. -/
def sortG (l : List (List Int)) : List (List Int) := l.mergeSort fun x y => !ltG y x
theorem sortG_perm (l : List (List Int)) : (sortG l).Perm l := List.mergeSort_perm _ _
theorem sortG_sorted (l : List (List Int)) : (sortG l).Pairwise fun x y => ltG y x = false := by
 have h := List.pairwise_mergeSort (le := fun x y : List Int => !ltG y x) (fun a b c h1 h2 => by
  simp only [Bool.not_eq_true'] at h1 h2 ⊢
  exact ltG_ntrans c b a h2 h1) (fun a b => by
  cases h1 : ltG b a with
  | false => rfl
  | true =>
   cases h2 : ltG a b with
   | false => rfl
   | true => have := ltG_trans _ _ _ h1 h2; rw [ltG_irrefl] at this; cases this) l
 exact h.imp (fun q => by simpa using q)
theorem sortG_unique {A l : List (List Int)} (hp : A.Perm l) (hs : A.Pairwise fun x y => ltG y x = false) : A = sortG l :=
 List.Perm.eq_of_pairwise (le := fun x y => ltG y x = false) (fun a b _ _ h1 h2 => ltG_anti a b h2 h1) hs (sortG_sorted l) (hp.trans (sortG_perm l).symm)
/-! what compareGroups says -/
def cmL : List Int → List Int → Int
 | a :: x, b :: y => if a < b then -1 else if a > b then 1 else cmL x y
 | _, _ => 0
def cmpG (x y : List Int) : Int := if x.length = y.length then cmL x y else (x.length : Int) - (y.length : Int)
theorem cmL_lt : ∀ x y : List Int, x.length = y.length → decide (cmL x y < 0) = lxG x y := by
 intro x
 induction x with
 | nil => intro y h; cases y with
  | nil => rfl
  | cons b y => simp at h
 | cons a x ih => intro y h; cases y with
  | nil => simp at h
  | cons b y =>
   have e := ih y (by simpa using h)
   unfold cmL lxG
   by_cases h1 : a < b
   ·simp [h1]
   ·by_cases h2 : a > b
    ·simp [h1, h2]; intro q; omega
    ·have hab : a = b := by omega
     subst hab
     simp [e]
theorem cmpG_lt (x y : List Int) : decide (cmpG x y < 0) = ltG x y := by
 unfold cmpG ltG
 by_cases h : x.length = y.length
 ·rw [if_pos h, cmL_lt x y h]; simp [h]
 ·rw [if_neg h]
  by_cases h2 : x.length < y.length
  ·simp [h2]; omega
  ·simp [h, h2]; omega
theorem cmpF (a b : Int) : cmp_Compare.f a b = some (if a < b then -1 else if a > b then 1 else 0) := by
 unfold cmp_Compare.f cmp_isNaN.f
 simp only [bne_self_eq_false, Option.bind_some, if_neg Bool.false_ne_true]
 split
 ·rfl
 ·split <;> rfl
theorem rdG {l : List Int} {i : Nat} (h : i < l.length) : rd l (i : Int) = l[i] := by
 unfold rd; rw [Int.toNat_natCast, List.getD_eq_getElem?_getD, List.getElem?_eq_getElem h]; rfl
theorem compare_l0 (x y : List Int) (hl : x.length = y.length) (hx : x.length ≤ 9223372036854775807) : ∀ d i : Nat, i + d = x.length → slices_Compare.l0 (d + 1) x y x (x.length : Int) (i : Int) = some (cmL (x.drop i) (y.drop i)) := by
 intro d
 induction d with
 | zero =>
  intro i hi; have e1 : x.drop i = [] := List.drop_eq_nil_of_le (by omega); simp only [slices_Compare.l0]; rw [if_neg (by omega), if_neg (by omega), e1]; rfl
 | succ d ih =>
  intro i hi
  have h1 : i < x.length := by omega
  have h2 : i < y.length := by omega
  have ih := ih (i + 1) (by omega)
  have hw : wrap64 ((i : Int) + 1) = ((i + 1 : Nat) : Int) := by unfold wrap64; omega
  rw [show slices_Compare.l0 (d + 1 + 1) x y x (x.length : Int) (i : Int) = (if (i : Int) < (x.length : Int) then (if 0 ≤ (i : Int) then (if (i : Int) < (x.length : Int) then (if (i : Int) ≥ (y.length : Int) then (some 1) else (if (i : Int) < (y.length : Int) then ((cmp_Compare.f (rd x (i : Int)) (rd y (i : Int))).bind fun t => (if t = 0 then (slices_Compare.l0 (d + 1) x y x (x.length : Int) (wrap64 ((i : Int) + 1))) else (some t))) else (none))) else (none)) else (none)) else (if (x.length : Int) < (y.length : Int) then (some (-1)) else (some 0))) from rfl]; rw [if_pos (by omega), if_pos (by omega), if_pos (by omega), if_neg (by omega), if_pos (by omega), cmpF, rdG h1, rdG h2, hw, Option.bind_some, List.drop_eq_getElem_cons h1, List.drop_eq_getElem_cons h2]
  unfold cmL
  by_cases c1 : x[i] < y[i]
  ·rw [if_pos c1, if_pos c1, if_neg (by omega)]
  ·rw [if_neg c1, if_neg c1]
   by_cases c2 : x[i] > y[i]
   ·rw [if_pos c2, if_pos c2, if_neg (by omega)]
   ·rw [if_neg c2, if_neg c2, if_pos rfl]
    exact ih
theorem compareGroups_val (x y : List Int) (hx : x.length ≤ 9223372036854775807) (hy : y.length ≤ 9223372036854775807) : ∃ k, impl_compareGroups.f k x y = some (cmpG x y) := by
 by_cases h : x.length = y.length
 ·refine ⟨x.length + 1, ?_⟩
  have e := compare_l0 x y h hx x.length 0 (by omega)
  unfold impl_compareGroups.f slices_Compare.f cmpG
  rw [if_pos (by omega), if_pos h]; rw [show ((0 : Nat) : Int) = 0 from rfl] at e; rw [e]; rfl
 ·refine ⟨0, ?_⟩
  unfold impl_compareGroups.f cmpG
  rw [if_neg (by omega), if_neg h]
  have : wrap64 ((x.length : Int) - (y.length : Int)) = (x.length : Int) - (y.length : Int) := by unfold wrap64; omega
  rw [this]
/-! the sort -/
theorem sortG_heap {α : Type} [Inhabited α] (enc : α → Value) {w : World} {g n : Nat} {os : Array Obj} {cur : Array Value} {e : TypeId} {fr : Nat × Nat} (F : Array α) (hb : w.heap[g]? = some (.cells cur e fr)) :
  (Go.Sort.grow (Go.Sort.putRow enc (Go.Sort.ahead w n) g 0 F) os).heap[g]? = some (.cells (Go.Sort.putCells enc 0 F cur) e fr) := by
 have hg : g < w.heap.size := (Array.getElem?_eq_some_iff.1 hb).1; rw [Go.Sort.heap_grow_old _ _ (by simpa [Go.Sort.putRow, Go.Sort.mapBlock, Go.Sort.ahead] using hg)]
 simp [Go.Sort.putRow, Go.Sort.mapBlock, Go.Sort.ahead, Array.getElem?_modify, hb, Go.Sort.onCells]
theorem sortG_grown {α : Type} [Inhabited α] (enc : α → Value) {w : World} {g n : Nat} {os : Array Obj} (F : Array α) : w.grownBy (Go.Sort.grow (Go.Sort.putRow enc (Go.Sort.ahead w n) g 0 F) os) (some g) := by
 refine ⟨rfl, rfl, rfl, by simp [Go.Sort.grow, Go.Sort.putRow, Go.Sort.mapBlock, Go.Sort.ahead], fun k hk hne => ?_⟩; rw [Go.Sort.heap_grow_old _ _ (by simpa [Go.Sort.putRow, Go.Sort.mapBlock, Go.Sort.ahead] using hk)]
 have : g ≠ k := fun e => hne (by rw [e])
 simp [Go.Sort.putRow, Go.Sort.mapBlock, Go.Sort.ahead, Array.getElem?_modify, this]
theorem sortG_cells {α : Type} [Inhabited α] (enc : α → Value) (cur : Array Value) (F : Array α) (h : F.size ≤ cur.size) : (Go.Sort.putCells enc 0 F cur).toList.take F.size = F.toList.map enc := by
 apply List.ext_getElem?
 intro j
 by_cases hj : j < F.size
 ·rw [List.getElem?_take_of_lt hj, Array.getElem?_toList, List.getElem?_map, Array.getElem?_toList, Array.getElem?_eq_getElem hj]
  have h2 : j < cur.size := by omega
  simp [Go.Sort.putCells, hj, h2, getElem!_pos F j hj]
 ·rw [List.getElem?_take_eq_none (by omega), List.getElem?_eq_none (by simpa using hj)]
abbrev kG := Kd.slice 3 (Kd.int .i64)
/-- What is known of an element: its value, its list, its place ahead of the sort. -/
def EG (w : World) (base g : Nat) (f : Nat → Nat) (x : Value × List Int × Nat) : Prop := kG.M w base (fun k => (True ∧ some k ≠ some g) ∧ f k = x.2.2) x.2.1 [x.1]
theorem EG_reads {w : World} {base g : Nat} {f : Nat → Nat} {x : Value × List Int × Nat} (h : EG w base g f x) : ∃ A c, x.1 = .slice A x.2.1.length c ∧ x.2.1.length ≤ c ∧ Kd.C (Kd.int .i64) w A x.2.1.length x.2.1 ∧ ∀ ad, A = some ad → ad.block ≠ g := by
 obtain ⟨v, e, hR⟩ := h
 have ev : x.1 = v := by injection e
 obtain ⟨A, c, hv, hl, hC⟩ := Kd.R_reads hR; refine ⟨A, c, ev.trans hv, hl, hC, fun ad ha eg => ?_⟩; subst ha; have := (hR.1 ad.block (by rw [hv]; rfl)).1.2; exact this (by rw [eg])
instance instEG (w : World) (base g : Nat) (f : Nat → Nat) : Inhabited { x : Value × List Int × Nat // EG w base g f x } := ⟨⟨(.slice none 0 0, [], 0), ⟨_, rfl, Kd.R_nil _ _ _ _ _⟩⟩⟩
set_option maxHeartbeats 4000000 in
set_option maxRecDepth 100000 in
theorem slices_SortFunc_compareGroups.calls (v : Value) (l : List (List Int)) (w0 w : World) (hB : Below w0.heap.size w0 w) (ho : Kd.S kG 34 w w0.heap.size (fun _ => True) v l) (hl : 0 < l.length ∧ l.length < 4611686018427387904) :
  Calls Try.prog 66 #[v, .func (.func 67) #[] #[]] w fun e w' => e = .returned (.tuple #[]) ∧ Kd.S kG 34 w' w0.heap.size (fun _ => True) v (sortG l) ∧ Below w0.heap.size w0 w' := by
 obtain ⟨f, hok, inner, ⟨ho1, ho2⟩, hr⟩ := ho; rw [List.length_zipIdx] at ho1 ho2
 rcases ho2 with ⟨_, hn⟩ | ⟨g, cap, cur, rfl, hbase, hcur, h1, h2, h3, h4⟩
 ·omega
 have hsz : kG.sz = 1 := rfl; have hsz2 : (Kd.tag f kG).sz = 1 := rfl; rw [hsz2, Nat.mul_one] at ho1 h3 h4; rw [hsz2] at hr
 have hel : ∀ j (hj : j < l.length), EG w w0.heap.size g f (inner[j]'(by omega), l[j], j) := by
  intro j hj; have q := hr.2 j (l[j], j) (Kd.zip_at (List.getElem?_eq_getElem hj)); rw [Nat.mul_one, List.drop_eq_getElem_cons (by omega)] at q; exact q
 obtain ⟨E, hE⟩ : ∃ E : List { x : Value × List Int × Nat // EG w w0.heap.size g f x }, E = List.ofFn (n := l.length) fun j => ⟨(inner[j.1]'(by have := j.2; omega), l[j.1]'j.2, j.1), hel j.1 j.2⟩ := ⟨_, rfl⟩
 have hEl : E.length = l.length := by rw [hE]; simp
 have hE0 : ∀ j (hj : j < l.length), (E[j]'(by omega)).1 = (inner[j]'(by omega), l[j], j) := by
  intro j hj; subst hE; simp
 obtain ⟨enc, henc⟩ : ∃ enc : { x : Value × List Int × Nat // EG w w0.heap.size g f x } → Value, enc = fun x => x.1.1 := ⟨_, rfl⟩
 have henc0 : ∀ x, enc x = x.1.1 := fun x => by rw [henc]
 have hmap2 : E.map (fun x => x.1.2.1) = l := by
  apply List.ext_getElem (by simpa using hEl)
  intro j ha hb; rw [List.getElem_map, hE0 j hb]
 have hmap3 : E.map (fun x => x.1.2.2) = List.range l.length := by
  apply List.ext_getElem (by simpa using hEl)
  intro j ha hb; rw [List.getElem_map, hE0 j (by simpa using hb), List.getElem_range]
 have h1c : OneCell enc := by
  intro x; rw [henc0]; obtain ⟨A, c, e, _⟩ := EG_reads x.2; rw [e]; rfl
 have hH : Go.Sort.Holds enc w g 0 E.toArray := by
  intro j hj
  have hj' : j < l.length := by simpa [hEl] using hj
  refine ⟨?_, by simp [World.frozen?, hcur]⟩; rw [getElem!_pos E.toArray j hj, henc0]; have e0 := hE0 j hj'
  have e1 : E.toArray[j] = E[j]'(by omega) := by simp
  rw [e1, e0]
  have q : (cur.toList.take l.length)[j]? = inner[j]? := by rw [h4]
  rw [List.getElem?_take_of_lt hj', Array.getElem?_toList, List.getElem?_eq_getElem (by omega)] at q; simp only [World.cell?, hcur, Nat.zero_add]; simp only [Option.isSome_none, Bool.false_eq_true, if_false]; exact q
 have hblk : g < w.heap.size := (Array.getElem?_eq_some_iff.1 hcur).1; have eg : ∀ args W, (callFunc 67 args).run Try.prog W = .ok (.enter 67 args) W := enters_of Try.func67 (by kernel_rfl) rfl
 obtain ⟨cf, hcf⟩ : ∃ cf : { x : Value × List Int × Nat // EG w w0.heap.size g f x } → { x : Value × List Int × Nat // EG w w0.heap.size g f x } → Int, cf = fun x y => cmpG x.1.2.1 y.1.2.1 := ⟨_, rfl⟩
 have hlt : ∀ x y, ltOf cf x y = ltG x.1.2.1 y.1.2.1 := by
  intro x y
  unfold ltOf
  rw [hcf]; exact cmpG_lt _ _
 have hswo : Go.Sort.SWO (ltOf cf) := ⟨fun x => by rw [hlt]; exact ltG_irrefl _, fun x y z a b => by rw [hlt] at *; exact ltG_trans _ _ _ a b, fun x y z a b => by rw [hlt] at *; exact ltG_ntrans _ _ _ a b⟩
 have hcmp : CmpLays1 Try.prog 67 #[] enc cf g 0 E.toArray.size w := by
  intro m os dk hs x y; obtain ⟨A, c, e1, l1, c1, n1⟩ := EG_reads x.2; obtain ⟨A', c', e2, l2, c2, n2⟩ := EG_reads y.2; obtain ⟨k, hk⟩ := compareGroups_val x.1.2.1 y.1.2.1 c1.2.1 c2.2.1; have hgr := sortG_grown (w := w) (g := g) (n := m) (os := os) enc dk; have hkb : KeepBut w (sortWorld enc w g 0 m dk os) g none := ⟨hgr.size, fun i hi hne _ => hgr.block i hi (fun q => hne (by injection q))⟩; have r1 : Kd.C (Kd.int .i64) (sortWorld enc w g 0 m dk os) A x.1.2.1.length x.1.2.1 := Kd.C_foot_ne (fun q => q) c1 (fun ad ha _ => n1 ad ha) _ hkb; have r2 : Kd.C (Kd.int .i64) (sortWorld enc w g 0 m dk os) A' y.1.2.1.length y.1.2.1 := Kd.C_foot_ne (fun q => q) c2 (fun ad ha _ => n2 ad ha) _ hkb; have key := impl_compareGroups.calls k A c x.1.2.1 A' c' y.1.2.1 (cmpG x.1.2.1 y.1.2.1) (sortWorld enc w g 0 m dk os) r1 l1 r2 l2 hk; rw [henc0, henc0, e1, e2]; refine key.mono ?_
  rintro e w' ⟨he, ⟨nd, hw⟩⟩
  exact ⟨by rw [hcf]; exact he, nd, #[], by rw [hw, Go.Sort.grow_empty]⟩
 have hbig : E.toArray.size < 4611686018427387904 := by simpa [hEl] using hl.2
 have hcon := Any.slices_SortFunc Try.sortGroups enc h1c cf hswo 67 #[] g 0 cap E.toArray w eg hcmp hH hblk hbig
 have hcon2 : Calls Try.prog 66 #[.slice (some ⟨g, 0, none⟩) l.length cap, .func (.func 67) #[] #[]] w fun e w' => e = .returned (.tuple #[]) ∧ ∃ d' n os, Go.Sort.PermIn 0 E.toArray.size E.toArray d' ∧ Go.Sort.SortedIn (ltOf cf) 0 E.toArray.size d' ∧ w' = sortWorld enc w g 0 n d' os := by
  have e : E.toArray.size = l.length := by simpa using hEl
  rw [← e]; exact hcon
 refine hcon2.mono ?_
 rintro e w' ⟨rfl, d', n, os, hp, hs, rfl⟩
 have hds : d'.size = l.length := by rw [hp.1]; simpa using hEl
 have hes : E.toArray.size = l.length := by simpa using hEl
 have hperm : d'.toList.Perm E := by
  have q := hp.2.2; rw [hes] at q; rw [show d'.extract 0 l.length = d' from by rw [← hds]; simp, show E.toArray.extract 0 l.length = E.toArray from by rw [← hes]; simp] at q
  simpa using q
 have hsorted : d'.toList.map (fun x => x.1.2.1) = sortG l := by
  refine sortG_unique (by rw [← hmap2]; exact hperm.map _) ?_; rw [List.pairwise_map, List.pairwise_iff_getElem]; intro i j hi hj hij
  have hi' : i < d'.size := by simpa using hi
  have hj' : j < d'.size := by simpa using hj
  have q := hs i j (Nat.zero_le _) hij (by rw [hes, ← hds]; exact hj'); rw [hlt, getElem!_pos d' i hi', getElem!_pos d' j hj'] at q; rw [Array.getElem_toList, Array.getElem_toList]; exact q
 have hnd : (d'.toList.map fun x => x.1.2.2).Nodup := ((hperm.map fun x => x.1.2.2).nodup_iff).2 (by rw [hmap3]; exact List.nodup_range); have hgr := sortG_grown (w := w) (g := g) (n := n) (os := os) enc d'
 have hsz3 : ∀ F : Nat → Nat, (Kd.tag F kG).sz = 1 := fun _ => rfl
 have hdl : d'.toList.length = l.length := by rw [Array.length_toList, hds]
 have hlen : (sortG l).zipIdx.length = l.length := by rw [List.length_zipIdx, ← hsorted, List.length_map, hdl]
 refine ⟨rfl, ⟨fun k => d'.toList.findIdx fun x => x.1.2.2 == f k, fun _ _ => trivial, d'.toList.map enc, ⟨?_, Or.inr ⟨g, cap, _, ?_, hbase, sortG_heap enc d' hcur, ?_, h2, ?_, ?_⟩⟩, ?_, ?_⟩, hB.grown hgr hB.size (fun k hk => by cases hk; exact hbase)⟩
 ·rw [hlen, hsz3, List.length_map, hdl, Nat.mul_one]
 ·rw [hlen]
 ·rw [hlen]; exact h1
 ·rw [hsz3, Nat.mul_one]; simpa [Go.Sort.putCells] using h3
 ·rw [hlen, hsz3, Nat.mul_one, ← hdl]
  exact sortG_cells enc cur d' (by omega)
 ·rw [hlen, hsz3, List.length_map, hdl, Nat.mul_one]
 ·intro i p hip
  have hi : i < d'.toList.length := by
   have := (List.getElem?_eq_some_iff.1 hip).1; rw [List.length_zipIdx, ← hsorted, List.length_map] at this; exact this
  have ep : p = ((d'.toList[i]).1.2.1, i) := by
   rw [List.getElem?_zipIdx, ← hsorted, List.getElem?_map, List.getElem?_eq_getElem hi] at hip
   simpa using hip.symm
  rw [hsz3, Nat.mul_one, ep]
  have ec : ((d'.toList.map enc).drop i).take 1 = [(d'.toList[i]).1.1] := by
   rw [List.drop_eq_getElem_cons (by simpa using hi), List.getElem_map, henc0]; rfl
  rw [ec]; have q := (d'.toList[i]).2; have q2 : kG.M (sortWorld enc w g 0 n d' os) w0.heap.size (fun k => (True ∧ some k ≠ some g) ∧ f k = (d'.toList[i]).1.2.2) (d'.toList[i]).1.2.1 [(d'.toList[i]).1.1] := Kd.M_grown q hgr (fun k hk => hk.1.2); refine kG.M_mono (fun k hk => ⟨⟨trivial, hk.1.2⟩, ?_⟩) q2
  show (d'.toList.findIdx fun x => x.1.2.2 == f k) = i
  rw [List.findIdx_eq hi]; refine ⟨by rw [hk.2]; exact beq_iff_eq.2 rfl, fun j hji => ?_⟩; rw [hk.2]
  refine beq_eq_false_iff_ne.2 fun e => ?_
  have hj : j < d'.toList.length := by omega
  have q3 := List.pairwise_iff_getElem.1 hnd j i (by simpa using hj) (by simpa using hi) hji; rw [List.getElem_map, List.getElem_map] at q3; exact q3 e
mutual
def impl_zeroGroups.l0 : Nat → List (S41) → Int → List (List Int) → Int → Int → Option ((List (List Int)))
 | 0, _, _, _, _, _ => none
 | k + 1, x0, x1, x5, x14, x15 => if x15 < x14 then (impl_zeroGroups.l1 k x0 x1 x5 x15 (([] : List Int)) 0 x14 x15 x0 (x0.length : Int) 0) else (some x5)
def impl_zeroGroups.l1 : Nat → List (S41) → Int → List (List Int) → Int → List Int → Int → Int → Int → List (S41) → Int → Int → Option ((List (List Int)))
 | 0, _, _, _, _, _, _, _, _, _, _, _ => none
 | k + 1, x0, x1, x5, x6, x7, x8, x14, x15, x19, x20, x21 => if x21 < x20 then (if 0 ≤ x21 then (if x21 < (x19.length : Int) then (if (Go.bits .and .i64 (shr .i64 x6 x21) 1) = 1 then (if x7.length < 17592186044416 then (impl_zeroGroups.l1 k x0 x1 x5 x6 (x7 ++ [x21]) (wrap64 (x8 + (wrap64 (((rd_T41 x19 x21).f1) * (wrap64 (((rd_T41 x19 x21).f0) - x1)))))) x14 x15 x19 x20 (wrap64 (x21 + 1))) else (none)) else (impl_zeroGroups.l1 k x0 x1 x5 x6 x7 x8 x14 x15 x19 x20 (wrap64 (x21 + 1)))) else (none)) else (none)) else (if x8 = 0 then (if x5.length < 5864062014805 then (impl_zeroGroups.l0 k x0 x1 (x5 ++ [x7]) x14 (wrap64 (x15 + 1))) else (none)) else (impl_zeroGroups.l0 k x0 x1 x5 x14 (wrap64 (x15 + 1))))
end
def impl_zeroGroups.g (k : Nat) (l0 : List (S41)) (a1 : Int) : Option ((List (List Int))) := impl_zeroGroups.l0 k l0 a1 (([] : List (List Int))) (shl .i64 1 (l0.length : Int)) 0
theorem impl_zeroGroups.mono_l : ∀ k, (∀ y0 y1 y2 y3 y4, LeO (impl_zeroGroups.l0 k y0 y1 y2 y3 y4) (impl_zeroGroups.l0 (k + 1) y0 y1 y2 y3 y4)) ∧ (∀ y0 y1 y2 y3 y4 y5 y6 y7 y8 y9 y10, LeO (impl_zeroGroups.l1 k y0 y1 y2 y3 y4 y5 y6 y7 y8 y9 y10) (impl_zeroGroups.l1 (k + 1) y0 y1 y2 y3 y4 y5 y6 y7 y8 y9 y10))
 | 0 => ⟨fun _ _ _ _ _ r h => by simp [impl_zeroGroups.l0] at h, fun _ _ _ _ _ _ _ _ _ _ _ r h => by simp [impl_zeroGroups.l1] at h⟩
 | k + 1 => by
  obtain ⟨ih0, ih1⟩ := impl_zeroGroups.mono_l k; refine ⟨?_, ?_⟩
  ·intro y0 y1 y2 y3 y4
   unfold impl_zeroGroups.l0
   repeat' first
   | (with_reducible exact ih0 _ _ _ _ _)
   | (with_reducible exact ih1 _ _ _ _ _ _ _ _ _ _ _)
   | (with_reducible exact LeO.refl _)
   | (with_reducible exact LeO.none _)
   | (with_reducible refine LeO.ite ?_ ?_)
   | (with_reducible refine LeO.bind ?_ (fun _ => ?_))
  ·intro y0 y1 y2 y3 y4 y5 y6 y7 y8 y9 y10
   unfold impl_zeroGroups.l1
   repeat' first
   | (with_reducible exact ih0 _ _ _ _ _)
   | (with_reducible exact ih1 _ _ _ _ _ _ _ _ _ _ _)
   | (with_reducible exact LeO.refl _)
   | (with_reducible exact LeO.none _)
   | (with_reducible refine LeO.ite ?_ ?_)
   | (with_reducible refine LeO.bind ?_ (fun _ => ?_))
theorem impl_zeroGroups.monog : ∀ a0 a1 k, LeO (impl_zeroGroups.g k a0 a1) (impl_zeroGroups.g (k + 1) a0 a1) := by
 intro a0 a1 k; obtain ⟨ih0, ih1⟩ := impl_zeroGroups.mono_l k
 unfold impl_zeroGroups.g
 repeat' first
   | (with_reducible exact ih0 _ _ _ _ _)
   | (with_reducible exact ih1 _ _ _ _ _ _ _ _ _ _ _)
   | (with_reducible exact LeO.refl _)
   | (with_reducible exact LeO.none _)
   | (with_reducible refine LeO.ite ?_ ?_)
   | (with_reducible refine LeO.bind ?_ (fun _ => ?_))
def impl_zeroGroups.f (k : Nat) (l0 : List (S41)) (a1 : Int) : Option ((List (List Int))) := (impl_zeroGroups.g k l0 a1).bind fun t => if 0 < t.length ∧ t.length < 4611686018427387904 then some (sortG t) else none
theorem impl_zeroGroups.mono : ∀ a0 a1 k, LeO (impl_zeroGroups.f k a0 a1) (impl_zeroGroups.f (k + 1) a0 a1) := by
 intro a0 a1 k
 unfold impl_zeroGroups.f
 exact LeO.bind (impl_zeroGroups.monog _ _ _) (fun _ => LeO.refl _)
set_option maxHeartbeats 8000000 in
set_option maxRecDepth 100000 in
theorem impl_zeroGroups.calls (k : Nat) (A0 : Option Addr) (c0 : Nat) (l0 : List (S41)) (a1 : Int) (r0 : List (List Int)) (w : World) (hr0 : Kd.C k41 w A0 l0.length l0) (hc0 : l0.length ≤ c0) (h0 : impl_zeroGroups.f k l0 a1 = some r0) :
  Calls Try.prog 43 #[.slice A0 l0.length c0, .int .i64 a1] w fun e w' => ∃ v0_ : Value, e = .returned (v0_) ∧ Kd.S (Kd.slice 3 (Kd.int .i64)) 34 w' w.heap.size (fun _ => True) v0_ r0 ∧ Below w.heap.size w w' := by
 obtain ⟨r, h, hs0⟩ := Option.bind_eq_some_iff.mp h0; clear h0
 have hs1 : 0 < r.length ∧ r.length < 4611686018427387904 := by
  by_cases c : 0 < r.length ∧ r.length < 4611686018427387904
  ·exact c
  ·rw [if_neg c] at hs0; cases hs0
 rw [if_pos hs1] at hs0; have HS1 := Aside0.mk hs1; have HS0 := Aside0.mk (Option.some.inj hs0); clear hs1 hs0; have hu41 := Try.underlying41; have HR0 := Aside0.mk hr0; have HC0 := Aside0.mk hc0; clear hr0 hc0; have HB := Aside0.mk (Below.refl w.heap.size w); have H : (impl_zeroGroups.l0 k l0 a1 (([] : List (List Int))) (shl .i64 1 (l0.length : Int)) 0) = some r := h; clear h; obtain ⟨y194, hy194⟩ : ∃ y_ : List (List Int), y_ = (([] : List (List Int))) := ⟨_, rfl⟩
 replace H : (impl_zeroGroups.l0 k l0 a1 y194 (shl .i64 1 (l0.length : Int)) 0) = some r := by first | (rw [hy194]; with_reducible exact H) | (have H2_ := (Option.bind_some _ _).symm.trans H; rw [hy194]; with_reducible exact H2_) | (have H2_ := (Option.bind_some _ _).symm.trans H; with_reducible exact H2_) | with_reducible exact H | (rw [hy194]; exact H) | exact H
 have Ny194 := Aside0.mk hy194; clear hy194; obtain ⟨ji3, hji3⟩ : ∃ j_ : Int, (shl .i64 1 (l0.length : Int)) = j_ := ⟨_, rfl⟩
 replace H : (impl_zeroGroups.l0 k l0 a1 y194 ji3 0) = some r := by first | (rw [hji3] at H; exact H) | (simp only [hji3] at H ⊢; exact H)
 have hji3_ : (IntKind.i64.wrap (1 * 2 ^ min (l0.length : Int).toNat 64)) = ji3 := hji3; have hji3z : (l0.length : Int) ≤ 64 → (IntKind.i64.wrap (1 * 2 ^ (l0.length : Int).toNat)) = ji3 := shl_small hji3; have hji3p : (IntKind.i64.wrap (1 * 2 ^ min l0.length 64)) = ji3 := hji3_; have hji3q : (l0.length : Int) ≤ 64 → (IntKind.i64.wrap (1 * 2 ^ l0.length)) = ji3 := hji3z
 have hji3r : (IntKind.i64.wrap (2 ^ min l0.length 64)) = ji3 := by have h_ := hji3p; rw [Int.one_mul] at h_; exact h_
 have hji3s : (l0.length : Int) ≤ 64 → (IntKind.i64.wrap (2 ^ l0.length)) = ji3 := fun hle_ => by have h_ := hji3q hle_; rw [Int.one_mul] at h_; exact h_
 have hji3u : (IntKind.i64.wrap (2 ^ min (l0.length : Int).toNat 64)) = ji3 := by have h_ := hji3_; rw [Int.one_mul] at h_; exact h_
 have hji3v : (l0.length : Int) ≤ 64 → (IntKind.i64.wrap (2 ^ (l0.length : Int).toNat)) = ji3 := fun hle_ => by have h_ := hji3z hle_; rw [Int.one_mul] at h_; exact h_
 have hji3y : (wrap64 (1 * 2 ^ min (l0.length : Int).toNat 64)) = ji3 := (i64_w _).symm.trans hji3_
 have hji3x : (l0.length : Int) ≤ 64 → (wrap64 (1 * 2 ^ (l0.length : Int).toNat)) = ji3 := fun h_ => (i64_w _).symm.trans (hji3z h_)
 have H' := Aside0.mk H; clear H
 go_enter Try.func43, Try.ntmps43
 go_wp2_with (first | ((with_reducible refine gate_dst (N := 11) rfl ?_); refine Kd.S_lit (Kd.slice 3 (Kd.int .i64)) _ 34 ?hg (N := 11) ?hd (xs := ([] : List (List Int))) (inner := []) (ok := fun _ => True) (okp := fun _ => True) ?hr ?hp (fun _ hk => hk) trivial (Below.refl _ _) (Nat.le_refl _) (by simp) ?_; (case hd => rfl); (case hg => rfl); (case hr => first | (go_simp; done) | (go_simp; rfl)); (case hp => exact (Reps.none _ _)); intro v195 w4 ho5 hb hg_ hnew_; clear hg_ hnew_; (first | rw [← Ny194.out] at ho5 | (simp only [Int.reduceToNat] at ho5; rw [← Ny194.out] at ho5)); have n0_ := Aside0.mk (Kd.S_lower ho5 (below_size (by repeat (first | (with_reducible first | exact HB.out | apply below_alloc | apply pw_below_drewN | apply below_drew1) | exact HB.out)))); have n1_ := Aside0.mk (below_step (by repeat (first | (with_reducible first | exact HB.out | apply below_alloc | apply pw_below_drewN | apply below_drew1) | exact HB.out)) hb); clear HB; have HO196 := n0_; have HB := n1_; clear n0_ n1_; clear hb ho5))
 (try simp only [Act.put, sA, sZ, sS])
 go_loopg [5, 15] k (fun kq v5 v15 w' => ∃ (x5_1 : List (List Int)) (x15_1 : Int), v15 = .int .i64 x15_1 ∧ Aside0 (impl_zeroGroups.l0 kq l0 a1 x5_1 ji3 x15_1 = some r) ∧ Aside0 (kq ≤ k) ∧ Aside0 (Kd.S (Kd.slice 3 (Kd.int .i64)) 34 w' w.heap.size (fun _ => True) v5 x5_1) ∧ Aside0 (Below w.heap.size w w'))
 case atStart => exact ⟨(y194), (0), (by first | rfl | (simp; done) | (simp [*]; done)), H', ⟨Nat.le_refl _⟩, ⟨by (with_reducible repeat (first | apply Kd.S_alloc | apply Kd.S_drewN | apply Kd.S_drew)); exact HO196.out⟩, ⟨by repeat (first | (with_reducible first | exact HB.out | apply below_alloc | apply pw_below_drewN | apply below_drew1) | exact HB.out | exact Below.refl _ _)⟩⟩
 case round =>
  clear H'; (try clear p2); (try clear c4); obtain ⟨x5_1, x15_1, rfl, HA, HK1, HO_5, HB⟩ := hrel
  cases gk with
  | zero => exact absurd HA.out (by simp [impl_zeroGroups.l0])
  | succ k1 =>
   have H := HA.out; clear HA; simp only [impl_zeroGroups.l0] at H
   by_cases c6 : x15_1 < ji3
   ·rw [if_pos c6] at H
    have c6b0 : decide (x15_1 < ji3) = true := decide_eq_true c6; clear c6; obtain ⟨y197, hy197⟩ : ∃ y_ : List Int, y_ = (([] : List Int)) := ⟨_, rfl⟩
    replace H : (impl_zeroGroups.l1 k1 l0 a1 x5_1 x15_1 y197 0 ji3 x15_1 l0 (l0.length : Int) 0) = some r := by first | (rw [hy197]; with_reducible exact H) | (have H2_ := (Option.bind_some _ _).symm.trans H; rw [hy197]; with_reducible exact H2_) | (have H2_ := (Option.bind_some _ _).symm.trans H; with_reducible exact H2_) | with_reducible exact H | (rw [hy197]; exact H) | exact H
    have Ny197 := Aside0.mk hy197; clear hy197; have H' := Aside0.mk H; clear H
    go_wp2_with (first | ((with_reducible refine gate_dst (N := 18) rfl ?_); refine Kd.R_lit (Kd.int .i64) _ 3 ?hg (N := 18) ?hd (xs := ([] : List Int)) (inner := []) (ok := fun _ => True) (okp := fun _ => True) ?hr ?hp (fun _ hk => hk) trivial (Below.refl _ _) (Nat.le_refl _) (by simp) ?_; (case hd => rfl); (case hg => rfl); (case hr => first | (go_simp; done) | (go_simp; rfl)); (case hp => exact (Reps.none _ _)); intro v198 w7 ho8 hb hg_ hnew_; clear hg_ hnew_; (first | rw [← Ny197.out] at ho8 | (simp only [Int.reduceToNat] at ho8; rw [← Ny197.out] at ho8)); have n0_ := Aside0.mk (Kd.S_elder' (by (with_reducible repeat (first | apply Kd.S_alloc | apply Kd.S_drewN | apply Kd.S_drew)); exact HO_5.out) (Kd.R_base ho8) hb); have n1_ := Aside0.mk (Kd.R_lower ho8 (below_size (by repeat (first | (with_reducible first | exact HB.out | apply below_alloc | apply pw_below_drewN | apply below_drew1) | exact HB.out)))); have n2_ := Aside0.mk (below_step (by repeat (first | (with_reducible first | exact HB.out | apply below_alloc | apply pw_below_drewN | apply below_drew1) | exact HB.out)) hb); clear HO_5; clear HB; have HO_5 := n0_; have HO199 := n1_; have HB := n2_; clear n0_ n1_ n2_; clear hb ho8))
    (try simp only [Act.put, sA, sZ, sS])
    go_loopg [7, 8, 21] k1 (fun kq v7 v8 v21 w' => ∃ (x7_2 : List Int) (x8_2 : Int) (x21_2 : Int), v8 = .int .i64 x8_2 ∧ v21 = .int .i64 x21_2 ∧ Aside0 (impl_zeroGroups.l1 kq l0 a1 x5_1 x15_1 x7_2 x8_2 ji3 x15_1 l0 (l0.length : Int) x21_2 = some r) ∧ Aside0 (kq ≤ k1) ∧ Aside0 (Kd.S (Kd.slice 3 (Kd.int .i64)) 34 w' w.heap.size (fun k_ => some k_ ≠ (v7 : Value).ownBlock) u5 x5_1) ∧ Aside0 (Kd.R (Kd.int .i64) 3 w' w.heap.size (fun _ => True) v7 x7_2) ∧ Aside0 (Below w.heap.size w w'))
    case atStart => exact ⟨(y197), (0), (0), (by first | rfl | (simp; done) | (simp [*]; done)), (by first | rfl | (simp; done) | (simp [*]; done)), H', ⟨Nat.le_refl _⟩, ⟨by (with_reducible repeat (first | apply Kd.S_alloc | apply Kd.S_drewN | apply Kd.S_drew)); exact Kd.S_mono HO_5.out (fun _ hk => hk.2)⟩, ⟨by (with_reducible repeat (first | apply Kd.R_alloc | apply Kd.R_drewN | apply Kd.R_drew)); exact HO199.out⟩, ⟨by repeat (first | (with_reducible first | exact HB.out | apply below_alloc | apply pw_below_drewN | apply below_drew1) | exact HB.out | exact Below.refl _ _)⟩⟩
    case round =>
     clear H'; (try clear p2); (try clear c4); (try clear c6); (try clear c6b0); (try clear p6); (try clear p2); obtain ⟨x7_2, x8_2, x21_2, rfl, rfl, HA, HK2, HO_5, HO_7, HB⟩ := hrel
     cases gk with
     | zero => exact absurd HA.out (by simp [impl_zeroGroups.l1])
     | succ k2 =>
      have H := HA.out; clear HA; simp only [impl_zeroGroups.l1] at H
      by_cases c9 : x21_2 < (l0.length : Int)
      ·rw [if_pos c9] at H
       have c9b0 : decide (x21_2 < (l0.length : Int)) = true := decide_eq_true c9; clear c9
       by_cases c10 : 0 ≤ x21_2
       ·rw [if_pos c10] at H
        have c10b0 : decide (0 ≤ x21_2) = true := decide_eq_true c10; clear c10
        by_cases c11 : x21_2 < (l0.length : Int)
        ·rw [if_pos c11] at H
         have c11b0 : decide (x21_2 < (l0.length : Int)) = true := decide_eq_true c11; clear c11; have c12b0 := eq_true (of_decide_eq_true (by first | (with_reducible assumption) | assumption) : 0 ≤ x21_2); obtain ⟨ji13, hji13⟩ : ∃ j_ : Int, (shr .i64 x15_1 x21_2) = j_ := ⟨_, rfl⟩
         replace H : (if (Go.bits .and .i64 (ji13) 1) = 1 then (if x7_2.length < 17592186044416 then (impl_zeroGroups.l1 k2 l0 a1 x5_1 x15_1 (x7_2 ++ [x21_2]) (wrap64 (x8_2 + (wrap64 (((rd_T41 l0 x21_2).f1) * (wrap64 (((rd_T41 l0 x21_2).f0) - a1)))))) ji3 x15_1 l0 (l0.length : Int) (wrap64 (x21_2 + 1))) else (none)) else (impl_zeroGroups.l1 k2 l0 a1 x5_1 x15_1 x7_2 x8_2 ji3 x15_1 l0 (l0.length : Int) (wrap64 (x21_2 + 1)))) = some r := by first | (rw [hji13] at H; exact H) | (simp only [hji13] at H ⊢; exact H)
         have hji13_ : (x15_1 / 2 ^ min x21_2.toNat 64) = ji13 := hji13; have hji13z : x21_2 ≤ 64 → (x15_1 / 2 ^ x21_2.toNat) = ji13 := shr_small hji13
         by_cases c14 : (Go.bits .and .i64 (ji13) 1) = 1
         ·rw [if_pos c14] at H
          have c14b0 : ((Go.bits .and .i64 (ji13) 1) == 1) = true := beq_iff_eq.mpr c14; have c14b1 : ((Go.bits .and .i64 (ji13) 1) != 1) = false := bne_eq_false_iff_eq.mpr c14; clear c14
          by_cases c15 : x7_2.length < 17592186044416
          ·rw [if_pos c15] at H
           have LMc15 := Aside0.mk c15; clear c15; obtain ⟨y202, hy202⟩ : ∃ y_ : List Int, y_ = (x7_2 ++ [x21_2]) := ⟨_, rfl⟩
           replace H : (impl_zeroGroups.l1 k2 l0 a1 x5_1 x15_1 y202 (wrap64 (x8_2 + (wrap64 (((rd_T41 l0 x21_2).f1) * (wrap64 (((rd_T41 l0 x21_2).f0) - a1)))))) ji3 x15_1 l0 (l0.length : Int) (wrap64 (x21_2 + 1))) = some r := by first | (rw [hy202]; with_reducible exact H) | (have H2_ := (Option.bind_some _ _).symm.trans H; rw [hy202]; with_reducible exact H2_) | (have H2_ := (Option.bind_some _ _).symm.trans H; with_reducible exact H2_) | with_reducible exact H | (rw [hy202]; exact H) | exact H
           have Ny202 := Aside0.mk hy202; clear hy202; have H' := Aside0.mk H; clear H; have p200 : 0 ≤ (x21_2 : Int) := of_decide_eq_true (by first | (with_reducible assumption) | assumption); have q200 : x21_2 < (l0.length : Int) := of_decide_eq_true (by first | (with_reducible assumption) | assumption); obtain ⟨ad200, e200, hx200_0, hx200_1⟩ := at_T41 HR0.out x21_2 p200 q200; cases e200; replace hx200_0 := (HB.out.cell (World.block_lt_of_cell? w _ hx200_0)).trans hx200_0; replace hx200_1 := (HB.out.cell (World.block_lt_of_cell? w _ hx200_1)).trans hx200_1; replace p200 := eq_true p200; replace q200 := eq_true q200
           go_wp2_with (first | ((with_reducible refine gate_dst (N := 10) rfl ?_); refine box_event ?hg (N := 10) ?hd (cs := #[.int .i64 0, .int .i64 0]) (t := 41) ?hr ?_; (case hd => rfl); (case hg => rfl); (case hr => first | (go_simp; done) | (go_simp; rfl)); intro gb201 hg w16 hbox hb; have n0_ := Aside0.mk (Kd.S_below (by (with_reducible repeat (first | apply Kd.S_alloc | apply Kd.S_drewN | apply Kd.S_drew)); exact HO_5.out) hb); have n1_ := Aside0.mk (Kd.R_below (by (with_reducible repeat (first | apply Kd.R_alloc | apply Kd.R_drewN | apply Kd.R_drew)); exact HO_7.out) hb); have n2_ := Aside0.mk (below_step (by repeat (first | (with_reducible first | exact HB.out | apply below_alloc | apply pw_below_drewN | apply below_drew1) | exact HB.out)) hb); have n3_ := Aside0.mk (hbox); have n4_ := Aside0.mk ((by rw [hg]; exact (below_size (by repeat (first | (with_reducible first | exact HB.out | apply below_alloc | apply pw_below_drewN | apply below_drew1) | exact HB.out))) : w.heap.size ≤ gb201)); have n5_ := Aside0.mk ((by rw [hg]; exact (below_size (by repeat (first | (with_reducible first | exact HB.out | apply below_alloc | apply pw_below_drewN | apply below_drew1) | exact HB.out))) : w.heap.size ≤ gb201)); clear HO_5; clear HO_7; clear HB; have HO_5 := n0_; have HO_7 := n1_; have HB := n2_; have BK201 := n3_; have GW201 := n4_; have GE201 := n5_; clear n0_ n1_ n2_ n3_ n4_ n5_; clear hb hbox hg; have hcz17_0 : w16.cell? ⟨gb201, 0, none⟩ = some (.int .i64 0) := (blk_cell BK201.out 0).trans rfl; have hcz17_1 : w16.cell? ⟨gb201, 1, none⟩ = some (.int .i64 0) := (blk_cell BK201.out 1).trans rfl; have hfz17_0 := blk_frozen BK201.out 0; have hfz17_1 := blk_frozen BK201.out 1) | ((with_reducible refine gate_builtin (b := .append) (xs := #[.tmp 31, .tmp 33]) rfl ?_); at_builtin; refine Kd.R_append (Kd.int .i64) (w0 := w) w.heap.size rfl (.tmp 31) (.tmp 33) 34 3 (.int .i64 0) 8 rfl Try.underlying34 info3 rfl (by decide) (by omega) u7 x7_2 x21_2 [.int .i64 x21_2] (fun _ => True) (fun _ => False) rfl (by first | (go_simp; done) | (go_simp; rfl)) ?aP (fun _ hk => hk.elim) ?aF ?aO ?aB ?aS ?aL ?_; (case aP => exact rfl); (case aB => exact (by repeat (first | (with_reducible first | exact HB.out | apply below_alloc | apply pw_below_drewN | apply below_drew1 | refine below_set ?_ GE201.out) | exact HB.out))); (case aF => exact (fun _ _ => trivial)); (case aO => exact (by (with_reducible repeat (first | apply Kd.R_alloc | apply Kd.R_drewN | apply Kd.R_drew)); exact Kd.R_mono (Kd.R_far (p := ⟨gb201, 1, none⟩) (Kd.R_far (p := ⟨gb201, 0, none⟩) (Kd.R_types HO_7.out BK201.out (by decide)) (fun _ hk => hk.2) (.int .i64 ((rd_T41 l0 x21_2).f0))) (fun _ hk => hk.2) (.int .i64 ((rd_T41 l0 x21_2).f1))) (fun _ hk => trivial))); (case aS => exact (below_size (by repeat (first | (with_reducible first | exact HB.out | apply below_alloc | apply pw_below_drewN | apply below_drew1 | refine below_set ?_ GE201.out) | exact HB.out)))); (case aL => have := LMc15.out; omega); intro v203 w18 ho hb hg hat; rw [← Ny202.out] at ho; have n0_ := Aside0.mk (Kd.S_after (ok := (fun _ => True)) (by (with_reducible repeat (first | apply Kd.S_alloc | apply Kd.S_drewN | apply Kd.S_drew)); exact Kd.S_mono (Kd.S_far (p := ⟨gb201, 1, none⟩) (Kd.S_far (p := ⟨gb201, 0, none⟩) (Kd.S_types HO_5.out BK201.out (by decide)) (fun _ hk => hk.2) (.int .i64 ((rd_T41 l0 x21_2).f0))) (fun _ hk => hk.2) (.int .i64 ((rd_T41 l0 x21_2).f1))) (fun _ hk => ⟨trivial, hk.1⟩)) hg hat); have n1_ := Aside0.mk (blk_grown (g := gb201) (o := .cells #[.int .i64 ((rd_T41 l0 x21_2).f0), .int .i64 ((rd_T41 l0 x21_2).f1)] 41 (0, 0)) (by (with_reducible repeat (first | refine blk_drewN ?_ _ | refine blk_drew ?_ | refine blk_alloc ?_ _)); refine blk_put (cs := #[.int .i64 ((rd_T41 l0 x21_2).f0), .int .i64 0]) ?_ 1 _ rfl; (with_reducible repeat (first | refine blk_drewN ?_ _ | refine blk_drew ?_ | refine blk_alloc ?_ _)); refine blk_put (cs := #[.int .i64 0, .int .i64 0]) ?_ 0 _ rfl; (with_reducible repeat (first | refine blk_drewN ?_ _ | refine blk_drew ?_ | refine blk_alloc ?_ _)); exact BK201.out) hg (Kd.R_ne HO_7.out BK201.out (by decide))); have n2_ := Aside0.mk (hb); have n3_ := Aside0.mk (ho); clear HO_5; clear BK201; clear HB; clear HO_7; have HO_5 := n0_; have BK201 := n1_; have HB := n2_; have HO204 := n3_; clear n0_ n1_ n2_ n3_; clear ho hb hg hat; have hcz19_0 : w18.cell? ⟨gb201, 0, none⟩ = some (.int .i64 ((rd_T41 l0 x21_2).f0)) := (blk_cell BK201.out 0).trans rfl; have hcz19_1 : w18.cell? ⟨gb201, 1, none⟩ = some (.int .i64 ((rd_T41 l0 x21_2).f1)) := (blk_cell BK201.out 1).trans rfl; have hfz19_0 := blk_frozen BK201.out 0; have hfz19_1 := blk_frozen BK201.out 1))
           go_roundg k2
           case measure => have := HK1.out; have := HK2.out; omega
           case rel => exact ⟨(y202), (wrap64 (x8_2 + (wrap64 (((rd_T41 l0 x21_2).f1) * (wrap64 (((rd_T41 l0 x21_2).f0) - a1)))))), (wrap64 (x21_2 + 1)), (by first | rfl | (simp; done) | (simp [*]; done)), (by first | rfl | (simp; done) | (simp [*]; done)), H', ⟨by have := HK1.out; have := HK2.out; omega⟩, ⟨by (with_reducible repeat (first | apply Kd.S_alloc | apply Kd.S_drewN | apply Kd.S_drew)); exact Kd.S_mono HO_5.out (fun _ hk => hk.2)⟩, ⟨by (with_reducible repeat (first | apply Kd.R_alloc | apply Kd.R_drewN | apply Kd.R_drew)); exact HO204.out⟩, ⟨by repeat (first | (with_reducible first | exact HB.out | apply below_alloc | apply pw_below_drewN | apply below_drew1 | refine below_set ?_ GE201.out) | exact HB.out)⟩⟩
          ·rw [if_neg c15] at H
           exact absurd H (by simp)
         ·rw [if_neg c14] at H
          have c14b0 : ((Go.bits .and .i64 (ji13) 1) == 1) = false := beq_eq_false_iff_ne.mpr c14; have c14b1 : ((Go.bits .and .i64 (ji13) 1) != 1) = true := bne_iff_ne.mpr c14; have H' := Aside0.mk H; clear H; have p200 : 0 ≤ (x21_2 : Int) := of_decide_eq_true (by first | (with_reducible assumption) | assumption); have q200 : x21_2 < (l0.length : Int) := of_decide_eq_true (by first | (with_reducible assumption) | assumption); obtain ⟨ad200, e200, hx200_0, hx200_1⟩ := at_T41 HR0.out x21_2 p200 q200; cases e200; replace hx200_0 := (HB.out.cell (World.block_lt_of_cell? w _ hx200_0)).trans hx200_0; replace hx200_1 := (HB.out.cell (World.block_lt_of_cell? w _ hx200_1)).trans hx200_1; replace p200 := eq_true p200; replace q200 := eq_true q200
          go_wp2_with (first | ((with_reducible refine gate_dst (N := 10) rfl ?_); refine box_event ?hg (N := 10) ?hd (cs := #[.int .i64 0, .int .i64 0]) (t := 41) ?hr ?_; (case hd => rfl); (case hg => rfl); (case hr => first | (go_simp; done) | (go_simp; rfl)); intro gb201 hg w20 hbox hb; have n0_ := Aside0.mk (Kd.S_below (by (with_reducible repeat (first | apply Kd.S_alloc | apply Kd.S_drewN | apply Kd.S_drew)); exact HO_5.out) hb); have n1_ := Aside0.mk (Kd.R_below (by (with_reducible repeat (first | apply Kd.R_alloc | apply Kd.R_drewN | apply Kd.R_drew)); exact HO_7.out) hb); have n2_ := Aside0.mk (below_step (by repeat (first | (with_reducible first | exact HB.out | apply below_alloc | apply pw_below_drewN | apply below_drew1) | exact HB.out)) hb); have n3_ := Aside0.mk (hbox); have n4_ := Aside0.mk ((by rw [hg]; exact (below_size (by repeat (first | (with_reducible first | exact HB.out | apply below_alloc | apply pw_below_drewN | apply below_drew1) | exact HB.out))) : w.heap.size ≤ gb201)); have n5_ := Aside0.mk ((by rw [hg]; exact (below_size (by repeat (first | (with_reducible first | exact HB.out | apply below_alloc | apply pw_below_drewN | apply below_drew1) | exact HB.out))) : w.heap.size ≤ gb201)); clear HO_5; clear HO_7; clear HB; have HO_5 := n0_; have HO_7 := n1_; have HB := n2_; have BK201 := n3_; have GW201 := n4_; have GE201 := n5_; clear n0_ n1_ n2_ n3_ n4_ n5_; clear hb hbox hg; have hcz21_0 : w20.cell? ⟨gb201, 0, none⟩ = some (.int .i64 0) := (blk_cell BK201.out 0).trans rfl; have hcz21_1 : w20.cell? ⟨gb201, 1, none⟩ = some (.int .i64 0) := (blk_cell BK201.out 1).trans rfl; have hfz21_0 := blk_frozen BK201.out 0; have hfz21_1 := blk_frozen BK201.out 1))
          go_roundg k2
          case measure => have := HK1.out; have := HK2.out; omega
          case rel => exact ⟨(x7_2), (x8_2), (wrap64 (x21_2 + 1)), (by first | rfl | (simp; done) | (simp [*]; done)), (by first | rfl | (simp; done) | (simp [*]; done)), H', ⟨by have := HK1.out; have := HK2.out; omega⟩, ⟨by (with_reducible repeat (first | apply Kd.S_alloc | apply Kd.S_drewN | apply Kd.S_drew)); exact Kd.S_mono (Kd.S_far (p := ⟨gb201, 1, none⟩) (Kd.S_far (p := ⟨gb201, 0, none⟩) (Kd.S_types HO_5.out BK201.out (by decide)) (fun _ hk => hk.2) (.int .i64 ((rd_T41 l0 x21_2).f0))) (fun _ hk => hk.2) (.int .i64 ((rd_T41 l0 x21_2).f1))) (fun _ hk => hk.1)⟩, ⟨by (with_reducible repeat (first | apply Kd.R_alloc | apply Kd.R_drewN | apply Kd.R_drew)); exact Kd.R_mono (Kd.R_far (p := ⟨gb201, 1, none⟩) (Kd.R_far (p := ⟨gb201, 0, none⟩) (Kd.R_types HO_7.out BK201.out (by decide)) (fun _ hk => hk.2) (.int .i64 ((rd_T41 l0 x21_2).f0))) (fun _ hk => hk.2) (.int .i64 ((rd_T41 l0 x21_2).f1))) (fun _ hk => trivial)⟩, ⟨by repeat (first | (with_reducible first | exact HB.out | apply below_alloc | apply pw_below_drewN | apply below_drew1 | refine below_set ?_ GE201.out) | exact HB.out)⟩⟩
        ·rw [if_neg c11] at H
         exact absurd H (by simp)
       ·rw [if_neg c10] at H
        exact absurd H (by simp)
      ·rw [if_neg c9] at H
       have c9b0 : decide (x21_2 < (l0.length : Int)) = false := decide_eq_false c9; clear c9
       by_cases c22 : x8_2 = 0
       ·rw [if_pos c22] at H
        have c22b0 : (x8_2 == 0) = true := beq_iff_eq.mpr c22; have c22b1 : (x8_2 != 0) = false := bne_eq_false_iff_eq.mpr c22; clear c22
        by_cases c23 : x5_1.length < 5864062014805
        ·rw [if_pos c23] at H
         have LMc23 := Aside0.mk c23; clear c23; obtain ⟨y205, hy205⟩ : ∃ y_ : List (List Int), y_ = (x5_1 ++ [x7_2]) := ⟨_, rfl⟩
         replace H : (impl_zeroGroups.l0 k2 l0 a1 y205 ji3 (wrap64 (x15_1 + 1))) = some r := by first | (rw [hy205]; with_reducible exact H) | (have H2_ := (Option.bind_some _ _).symm.trans H; rw [hy205]; with_reducible exact H2_) | (have H2_ := (Option.bind_some _ _).symm.trans H; with_reducible exact H2_) | with_reducible exact H | (rw [hy205]; exact H) | exact H
         have Ny205 := Aside0.mk hy205; clear hy205; have H' := Aside0.mk H; clear H; obtain ⟨Ao25, co25, eo25⟩ := Kd.R_slice HO_7.out; subst eo25
         go_wp2_with (first | ((with_reducible refine gate_builtin (b := .append) (xs := #[.tmp 47, .tmp 49]) rfl ?_); at_builtin; refine Kd.S_append (Kd.slice 3 (Kd.int .i64)) (w0 := w) w.heap.size rfl (.tmp 47) (.tmp 49) 27 34 (.slice none 0 0) 24 rfl Try.underlying27 info34 rfl (by decide) (by omega) u5 x5_1 x7_2 [.slice Ao25 x7_2.length co25] (fun _ => True) (fun k_ => some k_ = (.slice Ao25 x7_2.length co25 : Value).ownBlock) rfl rfl ?aP (fun k_ hk_ => ((Kd.R_mono (ok' := fun k_ => ((fun _ => True)) k_ ∧ some k_ ≠ (u5 : Value).ownBlock) (Kd.R_apart' (HO_7.out) (Kd.S_typed HO_5.out) (by decide)) (fun k_ hk => ⟨trivial, hk.2⟩))).1 k_ hk_.symm) ?aF ?aO ?aB ?aS ?aL ?_; (case aP => exact Kd.M_row (Kd.R_mono (Kd.R_tight rfl (Kd.R_mono (ok' := fun k_ => ((fun _ => True)) k_ ∧ some k_ ≠ (u5 : Value).ownBlock) (Kd.R_apart' (HO_7.out) (Kd.S_typed HO_5.out) (by decide)) (fun k_ hk => ⟨trivial, hk.2⟩))) (fun _ h_ => h_))); (case aB => exact (by repeat (first | (with_reducible first | exact HB.out | apply below_alloc | apply pw_below_drewN | apply below_drew1) | exact HB.out))); (case aF => exact (fun _ _ => trivial)); (case aO => exact (by (with_reducible repeat (first | apply Kd.S_alloc | apply Kd.S_drewN | apply Kd.S_drew)); exact Kd.S_mono HO_5.out (fun k_ hk => ⟨trivial, fun e_ => hk e_⟩))); (case aS => exact (below_size (by repeat (first | (with_reducible first | exact HB.out | apply below_alloc | apply pw_below_drewN | apply below_drew1) | exact HB.out)))); (case aL => have := LMc23.out; omega); intro v206 w24 ho hb hg hat; rw [← Ny205.out] at ho; have n0_ := Aside0.mk (hb); have n1_ := Aside0.mk (ho); clear HB; clear HO_5; clear HO_7; have HB := n0_; have HO207 := n1_; clear n0_ n1_; clear ho hb hg hat))
         go_roundg k2
         case measure => have := HK1.out; have := HK2.out; omega
         case rel => exact ⟨(y205), (wrap64 (x15_1 + 1)), (by first | rfl | (simp; done) | (simp [*]; done)), H', ⟨by have := HK1.out; have := HK2.out; omega⟩, ⟨by (with_reducible repeat (first | apply Kd.S_alloc | apply Kd.S_drewN | apply Kd.S_drew)); exact HO207.out⟩, ⟨by repeat (first | (with_reducible first | exact HB.out | apply below_alloc | apply pw_below_drewN | apply below_drew1) | exact HB.out)⟩⟩
        ·rw [if_neg c23] at H
         exact absurd H (by simp)
       ·rw [if_neg c22] at H
        have c22b0 : (x8_2 == 0) = false := beq_eq_false_iff_ne.mpr c22; have c22b1 : (x8_2 != 0) = true := bne_iff_ne.mpr c22; have H' := Aside0.mk H; clear H; go_wp2; go_roundg k2
        case measure => have := HK1.out; have := HK2.out; omega
        case rel => exact ⟨(x5_1), (wrap64 (x15_1 + 1)), (by first | rfl | (simp; done) | (simp [*]; done)), H', ⟨by have := HK1.out; have := HK2.out; omega⟩, ⟨by (with_reducible repeat (first | apply Kd.S_alloc | apply Kd.S_drewN | apply Kd.S_drew)); exact Kd.S_mono HO_5.out (fun _ hk => trivial)⟩, ⟨by repeat (first | (with_reducible first | exact HB.out | apply below_alloc | apply pw_below_drewN | apply below_drew1) | exact HB.out)⟩⟩
   ·rw [if_neg c6] at H
    have c6b0 : decide (x15_1 < ji3) = false := decide_eq_false c6; clear c6; obtain rfl := Option.some.inj H
    go_wp2_with (first | (go_at_call 66; refine (slices_SortFunc_compareGroups.calls u5 x5_1 w _ (by repeat (first | (with_reducible first | exact HB.out | apply below_alloc | apply pw_below_drewN | apply below_drew1) | exact HB.out)) (by (with_reducible repeat (first | apply Kd.S_alloc | apply Kd.S_drewN | apply Kd.S_drew)); exact HO_5.out) HS1.out).mono ?_; rintro e w99 ⟨rfl, hso, hsb⟩; clear HB; have HB := Aside0.mk hsb; have HSO := Aside0.mk hso; clear hso hsb))
    go_ret; exact ⟨_, by first | rfl | (simp <;> rfl), by rw [← HS0.out]; (with_reducible repeat (first | apply Kd.S_alloc | apply Kd.S_drewN | apply Kd.S_drew)); exact HSO.out, by repeat (first | (with_reducible first | exact HB.out | apply below_alloc | apply pw_below_drewN | apply below_drew1) | exact HB.out)⟩

end Go.Proofs.Ytdbccenmfdjkjaa.XZg
