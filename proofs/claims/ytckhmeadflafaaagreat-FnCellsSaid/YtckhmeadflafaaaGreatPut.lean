/- Putting cells down, in the program and in the reference alike: a list of different cells has one order. No conditions beyond those of the lemmas' own hypotheses. -/
import Derived.Test.YtckhmeadflafaaaGreatBody
import Derived.Test.YtckhmeadflafaaaGreatXFcx2
import Derived.Test.YtckhmeadflafaaaGreatXFcx4
namespace Go.Proofs.YtckhmeadflafaaaGreat.PurePut
open Go.RowKit YtckhmeadflafaaaGreat.XFc YtckhmeadflafaaaGreat.Plain YtckhmeadflafaaaGreat.PureCells YtckhmeadflafaaaGreat.PureBody YtckhmeadflafaaaGreatW.PrintWords YtckhmeadflafaaaGreatW.PrintLast YtckhmeadflafaaaGreatW.PrintMore
set_option linter.unusedVariables false

theorem bef_iff (x y : Cl) : bef x y = true ↔ x.f0 < y.f0 ∨ (x.f0 = y.f0 ∧ x.f1 < y.f1) := by
 unfold bef
 split
 ·simp; omega
 ·split
  ·simp; omega
  ·simp; omega
theorem lt_bef (x y : Cl) : ltOf cmpC x y = bef x y := by
 rw [ltC_eq]
 cases h : bef x y with
 | true => exact decide_eq_true ((bef_iff x y).1 h)
 | false => exact decide_eq_false (fun e => by rw [(bef_iff x y).2 e] at h; cases h)
/-- Not behind. -/
def Le (x y : Cl) : Prop := bef y x = false
theorem le_antisymm {x y : Cl} (h : Le x y) (k : Le y x) : x = y := by
 have h1 : ¬ bef y x = true := by rw [h]; exact Bool.false_ne_true
 have h2 : ¬ bef x y = true := by rw [k]; exact Bool.false_ne_true
 rw [bef_iff] at h1 h2
 obtain ⟨a, b⟩ := x
 obtain ⟨c, d⟩ := y
 have e1 : a = c := by simp only at h1 h2; omega
 have e2 : b = d := by simp only at h1 h2; omega
 rw [e1, e2]
theorem le_trans {x y z : Cl} (h : Le x y) (k : Le y z) : Le x z := by
 have h1 : ¬ bef y x = true := by rw [h]; exact Bool.false_ne_true
 have h2 : ¬ bef z y = true := by rw [k]; exact Bool.false_ne_true
 unfold Le
 rw [← Bool.not_eq_true]
 rw [bef_iff] at *
 omega
theorem le_of_bef {x y : Cl} (h : bef x y = true) : Le x y := by
 unfold Le
 rw [← Bool.not_eq_true]
 rw [bef_iff] at *
 omega

/-! ### into its place -/
def ins (c : Cl) : List Cl → List Cl
 | [] => [c]
 | x :: xs => if bef x c = true then x :: ins c xs else c :: x :: xs
theorem ins_len (c : Cl) (l : List Cl) : (ins c l).length = l.length + 1 := by
 induction l with
 | nil => rfl
 | cons x l ih => unfold ins; split <;> simp [ih]
theorem ins_perm (c : Cl) (l : List Cl) : (ins c l).Perm (c :: l) := by
 induction l with
 | nil => exact List.Perm.refl _
 | cons x l ih =>
  unfold ins
  split
  ·exact ((List.Perm.cons x ih).trans (List.Perm.swap c x l))
  ·exact List.Perm.refl _
theorem ins_sorted (c : Cl) (l : List Cl) (h : l.Pairwise Le) : (ins c l).Pairwise Le := by
 induction l with
 | nil => exact List.pairwise_singleton _ _
 | cons x l ih =>
  obtain ⟨h1, h2⟩ := List.pairwise_cons.1 h
  unfold ins
  split
  ·next hb =>
   refine List.pairwise_cons.2 ⟨fun y hy => ?_, ih h2⟩
   rcases List.mem_cons.1 ((ins_perm c l).mem_iff.1 hy) with rfl | hy
   ·exact le_of_bef hb
   ·exact h1 y hy
  ·next hb =>
   have hcx : Le c x := by
    unfold Le
    rw [← Bool.not_eq_true]; exact hb
   refine List.pairwise_cons.2 ⟨fun y hy => ?_, h⟩
   rcases List.mem_cons.1 hy with rfl | hy
   ·exact hcx
   ·exact le_trans hcx (h1 y hy)
def insAll (acc l : List Cl) : List Cl := l.foldl (fun o x => ins x o) acc
theorem insAll_spec (l : List Cl) : ∀ acc, acc.Pairwise Le → (insAll acc l).Pairwise Le ∧ (insAll acc l).Perm (l ++ acc) := by
 induction l with
 | nil => intro acc h; exact ⟨h, List.Perm.refl _⟩
 | cons x l ih =>
  intro acc h
  obtain ⟨h1, h2⟩ := ih (ins x acc) (ins_sorted x acc h)
  refine ⟨h1, h2.trans ?_⟩
  exact ((ins_perm x acc).append_left l).trans List.perm_middle
theorem sortC_spec (l : List Cl) : (sortC l).Pairwise Le ∧ (sortC l).Perm l := by
 obtain ⟨⟨p1, p2, p3⟩, s⟩ := sortC_perm l
 unfold sortC
 generalize Go.Sort.pdq (ltOf cmpC) l.toArray 0 l.toArray.size (Go.Lib.bitLen l.toArray.size) true true = d at *
 constructor
 ·rw [List.pairwise_iff_getElem]
  intro i j hi hj hij
  have hi' : i < d.size := by simpa using hi
  have hj' : j < d.size := by simpa using hj
  have := s i j (Nat.zero_le _) hij (by rw [← p1]; exact hj')
  rw [getElem!_pos d j hj', getElem!_pos d i hi', lt_bef] at this
  simpa [Le] using this
 ·have e : ∀ a : Array Cl, ∀ n, n = a.size → (a.extract 0 n).toList = a.toList := by
   intro a n hn
   subst hn
   simp
  rw [e d _ p1.symm, e l.toArray _ rfl] at p3
  simpa using p3
theorem sortC_eq (l : List Cl) : sortC l = insAll [] l := by
 obtain ⟨s1, s2⟩ := sortC_spec l
 obtain ⟨i1, i2⟩ := insAll_spec l [] List.Pairwise.nil
 rw [List.append_nil] at i2
 exact List.Perm.eq_of_pairwise (fun a b _ _ h k => le_antisymm h k) s1 i1 (s2.trans i2.symm)
theorem sortC_len (l : List Cl) : (sortC l).length = l.length := (sortC_spec l).2.length_eq

/-! ### the reference's way -/
theorem l8Put_l0 (l : List Cl) (hn : l.length ≤ 1048576) (c : Cl) : ∀ i, i ≤ l.length → Ev (fun k => spec_l8Put.l0 k l (i : Int) c.f0 c.f1) (l.take i ++ ins c (l.drop i)) := by
 refine downTo l.length ?_ ?_
 ·refine Ev.step (fun k => by simp only [spec_l8Put.l0]; exact rfl) (ifn (by omega) ?_)
  simp only [Option.bind_some, Int.toNat_natCast, List.nil_append, List.take_length, List.drop_length, List.length_nil, List.length_append, List.length_cons]
  refine ifp (by omega) (ifp (by omega) (ifp (by omega) (ifp (by omega) (ifp (by omega) (done ?_)))))
  simp [ins]
 ·intro i hi ih
  refine Ev.step (fun k => by simp only [spec_l8Put.l0]; exact rfl) (ifp (by omega) (ifp (by omega) ?_))
  rw [rdC hi]
  refine somb (before_eq l[i] c) ?_
  rw [drop_cons hi]
  unfold ins
  by_cases hb : bef l[i] c = true
  ·rw [if_pos hb]
   refine ifp hb ?_
   rw [wrapS hi (by omega)]
   rw [take_succ hi, List.append_assoc] at ih
   exact ih
  ·rw [if_neg hb]
   refine ifn hb ?_
   simp only [Option.bind_some, Int.toNat_natCast, List.nil_append, List.length_nil, List.length_append, List.length_cons]
   have h1 : (l.take i).length = i := by rw [List.length_take]; omega
   have h2 : (l.drop i).length = l.length - i := List.length_drop
   refine ifp (by omega) (ifp (by omega) (ifp (by omega) (ifp (by omega) (done ?_))))
   rw [← drop_cons hi]
   simp
theorem l8Put_ev (l : List Cl) (hn : l.length ≤ 1048576) (c : Cl) : Ev (fun k => spec_l8Put.f k l c.f0 c.f1) (ins c l) := by
 have := l8Put_l0 l hn c 0 (Nat.zero_le _)
 unfold spec_l8Put.f
 simpa using this
def sh (a b : Int) (x : Cl) : Cl := ⟨x.f0 - a, x.f1 - b⟩
def Mid (a : Int) : Prop := -1000000 ≤ a ∧ a ≤ 1000000
theorem l8Down_l1 (l : List Cl) (hn : l.length ≤ 1000) (hs : ∀ x ∈ l, Small x) (a b : Int) (ha : Mid a) (hb : Mid b) : ∀ i, i ≤ l.length → ∀ acc : List Cl, acc.length = i → Ev (fun k => spec_l8Down.l1 k l acc a b (i : Int)) (insAll acc ((l.drop i).map (sh a b))) := by
 refine downTo l.length ?_ ?_
 ·intro acc _
  refine Ev.step (fun k => by simp only [spec_l8Down.l1]; exact rfl) (ifn (by omega) (done ?_))
  simp [insAll]
 ·intro i hi ih acc hacc
  obtain ⟨⟨x0, x1⟩, y0, y1⟩ := hs l[i] (List.getElem_mem hi)
  unfold Mid at ha hb
  refine Ev.step (fun k => by simp only [spec_l8Down.l1]; exact rfl) (ifp (by omega) (ifp (by omega) ?_))
  rw [rdC hi, w64 (x := l[i].f0 - a) (by omega) (by omega), w64 (x := l[i].f1 - b) (by omega) (by omega), wrapS hi (by omega)]
  refine Ev.bind (l8Put_ev acc (by omega) (sh a b l[i])) ?_
  rw [drop_cons hi, List.map_cons]
  exact ih _ (by rw [ins_len, hacc])
theorem mn_mid {a b : Int} (ha : Mid a) (hb : Mid b) : Mid (mn a b) := by unfold Mid mn at *; split <;> omega
theorem lw_mid (l : List Cl) : ∀ a, Mid a → (∀ x ∈ l, Small x) → Mid (lw a l) := by
 induction l with
 | nil => intro a h _; exact h
 | cons x l ih => intro a h hs; exact ih _ (mn_mid h (hs x (by simp)).1) (fun y hy => hs y (by simp [hy]))
theorem dn_mid (l : List Cl) : ∀ a, Mid a → (∀ x ∈ l, Small x) → Mid (dn a l) := by
 induction l with
 | nil => intro a h _; exact h
 | cons x l ih => intro a h hs; exact ih _ (mn_mid h (hs x (by simp)).2) (fun y hy => hs y (by simp [hy]))
theorem l8Down_l0 (l : List Cl) (hn : l.length ≤ 1000) (r : List Cl) (A B : Int) (hr : Ev (fun k => spec_l8Down.l1 k l [] A B 0) r) : ∀ i, i ≤ l.length → ∀ a b, lw a (l.drop i) = A → dn b (l.drop i) = B → Ev (fun k => spec_l8Down.l0 k l [] a b (i : Int)) r := by
 refine downTo l.length ?_ ?_
 ·intro a b ha hb
  refine Ev.step (fun k => by simp only [spec_l8Down.l0]; exact rfl) (ifn (by omega) ?_)
  rw [List.drop_length] at ha hb
  have ha' : a = A := ha
  have hb' : b = B := hb
  rw [ha', hb']; exact hr
 ·intro i hi ih a b ha hb
  refine Ev.step (fun k => by simp only [spec_l8Down.l0]; exact rfl) (ifp (by omega) (ifp (by omega) (somb (least_eq _ _) (somb (least_eq _ _) ?_))))
  rw [rdC hi, wrapS hi (by omega)]
  rw [drop_cons hi] at ha hb
  exact ih _ _ ha hb
/-- The cells put down. -/
def pd (l : List Cl) (h0 : 0 < l.length) : List Cl := sortC (l.map (sh (lw l[0].f0 l) (dn l[0].f1 l)))
theorem pd_len (l : List Cl) (h0 : 0 < l.length) : (pd l h0).length = l.length := by unfold pd; rw [sortC_len, List.length_map]
theorem l8Down_ev (l : List Cl) (h0 : 0 < l.length) (hn : l.length ≤ 1000) (hs : ∀ x ∈ l, Small x) : Ev (fun k => spec_l8Down.f k l) (pd l h0) := by
 have hx := hs l[0] (List.getElem_mem h0)
 have e1 := l8Down_l1 l hn hs _ _ (lw_mid l l[0].f0 hx.1 hs) (dn_mid l l[0].f1 hx.2 hs) 0 (Nat.zero_le _) [] rfl
 have e0 := l8Down_l0 l hn _ _ _ e1 0 (Nat.zero_le _) l[0].f0 l[0].f1 rfl rfl
 unfold spec_l8Down.f pd
 rw [sortC_eq]
 refine ifp (by omega) ?_
 have r0 : rd_T37 l 0 = l[0] := rdC h0
 rw [r0]; exact e0

/-! ### the program's way -/
theorem put_l0 (l : List Cl) (h0 : 0 < l.length) (hn : l.length ≤ 1000) (hs : ∀ x ∈ l, Small x) (a b : Int) (ha : Mid a) (hb : Mid b) : ∀ i, i ≤ l.length → ∀ acc : List Cl, acc = (l.take i).map (sh a b) → Ev (fun k => impl_put.l0 k acc l (l.length : Int) (i : Int) a b) (sortC (l.map (sh a b))) := by
 refine downTo l.length ?_ ?_
 ·intro acc hacc
  rw [List.take_length] at hacc
  subst hacc
  refine Ev.step (fun k => by simp only [impl_put.l0]; exact rfl) (ifn (by omega) ?_)
  refine somb (a := sortC (l.map (sh a b))) ?_ (done rfl)
  unfold slices_SortFunc_compareCells.f
  rw [if_pos (by rw [List.length_map]; omega)]
 ·intro i hi ih acc hacc
  obtain ⟨⟨x0, x1⟩, y0, y1⟩ := hs l[i] (List.getElem_mem hi)
  unfold Mid at ha hb
  have hal : acc.length = i := by rw [hacc, List.length_map, List.length_take]; omega
  refine Ev.step (fun k => by simp only [impl_put.l0]; exact rfl) (ifp (by omega) (ifp (by omega) (ifp (by omega) (ifp (by omega) ?_))))
  rw [rdC hi, w64 (x := l[i].f0 - a) (by omega) (by omega), w64 (x := l[i].f1 - b) (by omega) (by omega), wrapS hi (by omega)]
  refine ih _ ?_
  rw [hacc, take_succ hi, List.map_append]
  rfl
theorem put_ev (l : List Cl) (h0 : 0 < l.length) (hn : l.length ≤ 1000) (hs : ∀ x ∈ l, Small x) : Ev (fun k => impl_put.f k l) (pd l h0) := by
 have hx := hs l[0] (List.getElem_mem h0)
 unfold impl_put.f pd
 refine ifn (by omega) (Ev.bind (leastOf_ev l h0 (by omega)) ?_)
 exact put_l0 l h0 hn hs _ _ (lw_mid l l[0].f0 hx.1 hs) (dn_mid l l[0].f1 hx.2 hs) 0 (Nat.zero_le _) [] rfl
end Go.Proofs.YtckhmeadflafaaaGreat.PurePut
