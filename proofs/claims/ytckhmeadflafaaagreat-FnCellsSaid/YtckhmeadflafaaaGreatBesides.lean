/- The cells besides a body, as the program lists them: those of the reference. No conditions beyond those of the lemmas' own hypotheses. -/
import Derived.Test.YtckhmeadflafaaaGreatCompact
import Derived.Test.YtckhmeadflafaaaGreatEdge
import Derived.Test.YtckhmeadflafaaaGreatReach
import Derived.Test.YtckhmeadflafaaaGreatShape
import Derived.Test.YtckhmeadflafaaaGreatXFcx6
namespace Go.Proofs.YtckhmeadflafaaaGreat.PureBesides
open Go.RowKit YtckhmeadflafaaaGreat.XFc YtckhmeadflafaaaGreat.Plain YtckhmeadflafaaaGreat.PureCells YtckhmeadflafaaaGreat.PureBody YtckhmeadflafaaaGreat.PurePut YtckhmeadflafaaaGreat.PureHang YtckhmeadflafaaaGreat.PureLoose YtckhmeadflafaaaGreat.PureReach YtckhmeadflafaaaGreat.PureShape YtckhmeadflafaaaGreat.PureHas YtckhmeadflafaaaGreat.PureEdge YtckhmeadflafaaaGreat.PureCompact YtckhmeadflafaaaGreatW.PrintWords YtckhmeadflafaaaGreatW.PrintLast YtckhmeadflafaaaGreatW.PrintMore
set_option linter.unusedVariables false
theorem hs_mem (l : List Cl) (z : Cl) : hsC l z.f0 z.f1 = true ↔ z ∈ l := by
 unfold hsC
 rw [List.any_eq_true]
 refine ⟨?_, fun h => ⟨z, h, decide_eq_true ⟨rfl, rfl⟩⟩⟩
 rintro ⟨c, hc, h⟩
 have h := of_decide_eq_true h
 cases z; cases c
 simp only at h
 rw [h.1, h.2] at hc
 exact hc
/-- A neighbor of a cell, by its number. -/
def nb (c : Cl) (t : Nat) : Cl := ⟨c.f0 + sel4 (t : Int) 1 (-1) 0 0, c.f1 + sel4 (t : Int) 0 0 1 (-1)⟩
theorem sel_range (j a b c d : Int) (ha : -1 ≤ a ∧ a ≤ 1) (hb : -1 ≤ b ∧ b ≤ 1) (hc : -1 ≤ c ∧ c ≤ 1) (hd : -1 ≤ d ∧ d ≤ 1) : -1 ≤ sel4 j a b c d ∧ sel4 j a b c d ≤ 1 := by
 unfold sel4; split
 ·exact ha
 ·split
  ·exact hb
  ·split
   ·exact hc
   ·exact hd
theorem nb_near (c z : Cl) : nr c z = true ↔ ∃ t, t < 4 ∧ z = nb c t := by
 have n0 : nb c 0 = ⟨c.f0 + 1, c.f1 + 0⟩ := rfl
 have n1 : nb c 1 = ⟨c.f0 + -1, c.f1 + 0⟩ := rfl
 have n2 : nb c 2 = ⟨c.f0 + 0, c.f1 + 1⟩ := rfl
 have n3 : nb c 3 = ⟨c.f0 + 0, c.f1 + -1⟩ := rfl
 obtain ⟨zx, zy⟩ := z
 obtain ⟨cx, cy⟩ := c
 unfold nr ab
 rw [decide_eq_true_eq]
 simp only at n0 n1 n2 n3 ⊢
 constructor
 ·intro h
  have key : (zx = cx + 1 ∧ zy = cy + 0) ∨ (zx = cx + -1 ∧ zy = cy + 0) ∨ (zx = cx + 0 ∧ zy = cy + 1) ∨ (zx = cx + 0 ∧ zy = cy + -1) := by
   split at h <;> split at h <;> omega
  rcases key with ⟨h1, h2⟩ | ⟨h1, h2⟩ | ⟨h1, h2⟩ | ⟨h1, h2⟩
  ·exact ⟨0, by omega, by rw [n0, h1, h2]⟩
  ·exact ⟨1, by omega, by rw [n1, h1, h2]⟩
  ·exact ⟨2, by omega, by rw [n2, h1, h2]⟩
  ·exact ⟨3, by omega, by rw [n3, h1, h2]⟩
 ·rintro ⟨t, ht, h⟩
  have key : (zx = cx + 1 ∧ zy = cy + 0) ∨ (zx = cx + -1 ∧ zy = cy + 0) ∨ (zx = cx + 0 ∧ zy = cy + 1) ∨ (zx = cx + 0 ∧ zy = cy + -1) := by
   have ht4 : t = 0 ∨ t = 1 ∨ t = 2 ∨ t = 3 := by omega
   rcases ht4 with e | e | e | e <;> subst e
   ·rw [n0] at h; injection h with h1 h2; exact Or.inl ⟨h1, h2⟩
   ·rw [n1] at h; injection h with h1 h2; exact Or.inr (Or.inl ⟨h1, h2⟩)
   ·rw [n2] at h; injection h with h1 h2; exact Or.inr (Or.inr (Or.inl ⟨h1, h2⟩))
   ·rw [n3] at h; injection h with h1 h2; exact Or.inr (Or.inr (Or.inr ⟨h1, h2⟩))
  split <;> split <;> omega
/-- Of the last neighbors of a cell those that are in no cell's place. -/
def rowN (l : List Cl) (c : Cl) : Nat → List Cl
 | 0 => []
 | n + 1 => (if hsC l (nb c (3 - n)).f0 (nb c (3 - n)).f1 = true then [] else [nb c (3 - n)]) ++ rowN l c n
theorem rowN_len (l : List Cl) (c : Cl) : ∀ n, (rowN l c n).length ≤ n := by
 intro n
 induction n with
 | zero => exact Nat.le_refl _
 | succ n ih =>
  show ((if hsC l (nb c (3 - n)).f0 (nb c (3 - n)).f1 = true then [] else [nb c (3 - n)]) ++ rowN l c n).length ≤ n + 1
  rw [List.length_append]
  split
  ·simp only [List.length_nil]; omega
  ·simp only [List.length_singleton]; omega
theorem rowN_mem (l : List Cl) (c z : Cl) : ∀ n, n ≤ 4 → (z ∈ rowN l c n ↔ (∃ t, 4 - n ≤ t ∧ t < 4 ∧ z = nb c t) ∧ z ∉ l) := by
 intro n
 induction n with
 | zero =>
  intro _
  exact ⟨fun h => absurd h (by simp [rowN]), fun ⟨⟨t, h1, h2, _⟩, _⟩ => absurd h1 (by omega)⟩
 | succ n ih =>
  intro hn
  show z ∈ (if hsC l (nb c (3 - n)).f0 (nb c (3 - n)).f1 = true then [] else [nb c (3 - n)]) ++ rowN l c n ↔ _
  rw [List.mem_append, ih (by omega)]
  constructor
  ·rintro (h | ⟨⟨t, h1, h2, h3⟩, h4⟩)
   ·by_cases hh : hsC l (nb c (3 - n)).f0 (nb c (3 - n)).f1 = true
    ·rw [if_pos hh] at h; cases h
    ·rw [if_neg hh, List.mem_singleton] at h
     subst h
     exact ⟨⟨3 - n, by omega, by omega, rfl⟩, fun hm => hh ((hs_mem l _).2 hm)⟩
   ·exact ⟨⟨t, by omega, h2, h3⟩, h4⟩
  ·rintro ⟨⟨t, h1, h2, h3⟩, h4⟩
   by_cases ht : t = 3 - n
   ·left
    subst ht
    rw [if_neg (fun hh => h4 (by rw [h3]; exact (hs_mem l _).1 hh)), List.mem_singleton]
    exact h3
   ·exact Or.inr ⟨⟨t, by omega, h2, h3⟩, h4⟩
theorem bes_l1 (l : List Cl) (hn : l.length ≤ 12) (i : Nat) (hi : i < l.length) (c : Cl) (hc : InR c) (r : List Cl) :
  ∀ n, n ≤ 4 → ∀ acc : List Cl, acc.length + n ≤ 1000 → Ev (fun k => impl_besides.l0 k l (acc ++ rowN l c n) l (l.length : Int) ((i + 1 : Nat) : Int)) r → Ev (fun k => impl_besides.l1 k l acc l (l.length : Int) (i : Int) ((4 - n : Nat) : Int) c.f0 c.f1) r := by
 have hwi : wrap64 ((i : Int) + 1) = ((i + 1 : Nat) : Int) := wrapS hi (by omega)
 obtain ⟨⟨x0, x1⟩, y0, y1⟩ := hc
 intro n
 induction n with
 | zero =>
  intro _ acc _ h
  refine Ev.step (fun k => by simp only [impl_besides.l1]; exact rfl) (ifn (by omega) ?_)
  rw [hwi]
  have e : acc ++ rowN l c 0 = acc := List.append_nil acc
  rw [e] at h
  exact h
 | succ n ih =>
  intro hn4 acc ha h
  have et : 4 - (n + 1) = 3 - n := by omega
  have hw : wrap64 (((3 - n : Nat) : Int) + 1) = ((4 - n : Nat) : Int) := by rw [w64 (by omega) (by omega)]; omega
  have s0 := sel_range ((3 - n : Nat) : Int) 1 (-1) 0 0 (by omega) (by omega) (by omega) (by omega)
  have s1 := sel_range ((3 - n : Nat) : Int) 0 0 1 (-1) (by omega) (by omega) (by omega) (by omega)
  have w0 : wrap64 (c.f0 + sel4 ((3 - n : Nat) : Int) 1 (-1) 0 0) = (nb c (3 - n)).f0 := w64 (by omega) (by omega)
  have w1 : wrap64 (c.f1 + sel4 ((3 - n : Nat) : Int) 0 0 1 (-1)) = (nb c (3 - n)).f1 := w64 (by omega) (by omega)
  have hcn := contains_ev l (by omega) (nb c (3 - n)).f0 (nb c (3 - n)).f1
  rw [et]
  refine Ev.step (fun k => by simp only [impl_besides.l1]; exact rfl) (ifp (by omega) (ifp (by omega) ?_))
  rw [w0, w1, hw]
  refine Ev.bind hcn ?_
  have eq : rowN l c (n + 1) = (if hsC l (nb c (3 - n)).f0 (nb c (3 - n)).f1 = true then [] else [nb c (3 - n)]) ++ rowN l c n := rfl
  rw [eq] at h
  by_cases hh : hsC l (nb c (3 - n)).f0 (nb c (3 - n)).f1 = true
  ·rw [if_pos hh, List.nil_append] at h
   exact ifp hh (ih (by omega) acc (by omega) h)
  ·rw [if_neg hh, ← List.append_assoc] at h
   refine ifn hh (ifp (by omega) ?_)
   exact ih (by omega) (acc ++ [nb c (3 - n)]) (by rw [List.length_append, List.length_singleton]; omega) h
/-- All of them, as they are found. -/
def colN (l m : List Cl) : List Cl := m.flatMap fun c => rowN l c 4
theorem bes_l0 (l : List Cl) (hn : l.length ≤ 12) (hr : ∀ x ∈ l, InR x) (r : List Cl) (h : Ev (fun k => (slices_SortFunc_compareCells.f (colN l l)).bind fun t => ((slices_Compact.f k t).bind fun u => (some u))) r) :
  ∀ i, i ≤ l.length → ∀ acc : List Cl, acc.length ≤ 4 * i → acc ++ colN l (l.drop i) = colN l l → Ev (fun k => impl_besides.l0 k l acc l (l.length : Int) (i : Int)) r := by
 refine downTo l.length ?_ ?_
 ·intro acc _ he
  have : colN l (l.drop l.length) = [] := by rw [List.drop_length]; rfl
  rw [this, List.append_nil] at he
  subst he
  exact Ev.step (fun k => by simp only [impl_besides.l0]; exact rfl) (ifn (by omega) h)
 ·intro i hi ih acc ha he
  refine Ev.step (fun k => by simp only [impl_besides.l0]; exact rfl) (ifp (by omega) (ifp (by omega) (ifp (by omega) ?_)))
  rw [rdC hi]
  have hl := rowN_len l l[i] 4
  refine bes_l1 l hn i hi l[i] (hr _ (List.getElem_mem hi)) r 4 (Nat.le_refl _) acc (by omega) ?_
  refine ih (acc ++ rowN l l[i] 4) (by rw [List.length_append]; omega) ?_
  rw [← he, drop_cons hi, List.append_assoc]
  rfl
theorem colN_mem (l : List Cl) (z : Cl) : z ∈ colN l l ↔ (∃ c ∈ l, nr c z = true) ∧ z ∉ l := by
 unfold colN
 rw [List.mem_flatMap]
 constructor
 ·rintro ⟨c, hc, h⟩
  obtain ⟨⟨t, h1, h2, h3⟩, h4⟩ := (rowN_mem l c z 4 (Nat.le_refl _)).1 h
  exact ⟨⟨c, hc, (nb_near c z).2 ⟨t, h2, h3⟩⟩, h4⟩
 ·rintro ⟨⟨c, hc, h⟩, h4⟩
  obtain ⟨t, h2, h3⟩ := (nb_near c z).1 h
  exact ⟨c, hc, (rowN_mem l c z 4 (Nat.le_refl _)).2 ⟨⟨t, by omega, h2, h3⟩, h4⟩⟩
theorem colN_len (l m : List Cl) : (colN l m).length ≤ 4 * m.length := by
 induction m with
 | nil => exact Nat.le_refl _
 | cons x m ih =>
  have e : colN l (x :: m) = rowN l x 4 ++ colN l m := rfl
  have := rowN_len l x 4
  rw [e, List.length_append, List.length_cons]; omega
theorem rowE_bf (l : List Cl) (x : Int) : ∀ n : Nat, (rowE l x n).Pairwise Bf := by
 intro n
 induction n with
 | zero => exact List.Pairwise.nil
 | succ n ih =>
  show ((if isEdge l x (12 - (n : Int)) = true then [(⟨x, 12 - (n : Int)⟩ : Cl)] else []) ++ rowE l x n).Pairwise Bf
  rw [List.pairwise_append]
  refine ⟨?_, ih, fun a ha b hb => ?_⟩
  ·split
   ·exact List.pairwise_singleton _ _
   ·exact List.Pairwise.nil
  ·by_cases h : isEdge l x (12 - (n : Int)) = true
   ·rw [if_pos h, List.mem_singleton] at ha
    subst ha
    obtain ⟨h1, h2, _⟩ := (rowE_mem l x b n).1 hb
    unfold Bf; rw [bef_iff]; simp only; omega
   ·rw [if_neg h] at ha; cases ha
theorem colE_bf (l : List Cl) : ∀ n : Nat, (colE l n).Pairwise Bf := by
 intro n
 induction n with
 | zero => exact List.Pairwise.nil
 | succ n ih =>
  show (rowE l (12 - (n : Int)) 14 ++ colE l n).Pairwise Bf
  rw [List.pairwise_append]
  refine ⟨rowE_bf l _ 14, ih, fun a ha b hb => ?_⟩
  obtain ⟨h1, _⟩ := (rowE_mem l _ a 14).1 ha
  obtain ⟨h2, _⟩ := (colE_mem l b n).1 hb
  unfold Bf; rw [bef_iff]; omega
theorem edge_bf (l : List Cl) : (edge l).Pairwise Bf := colE_bf l 14
/-- How far a body reaches. -/
theorem IsB.far {l : List Cl} (b : IsB l) : ∀ x ∈ l, (0 ≤ x.f0 ∧ x.f0 < (l.length : Int)) ∧ 0 ≤ x.f1 ∧ x.f1 < (l.length : Int) := by
 intro x hx
 obtain ⟨⟨a1, a2⟩, a3, a4⟩ := b.v.each x hx
 obtain ⟨u, hu, eu⟩ := lw_at b.v.n0
 obtain ⟨w, hw, ew⟩ := dn_at b.v.n0
 rw [b.v.lw0 b.v.n0] at eu
 rw [b.v.dn0 b.v.n0] at ew
 have h1 := far0 b.h hu hx
 have h2 := far1 b.h hw hx
 omega
theorem besides_ev {l : List Cl} (b : IsB l) : Ev (fun k => impl_besides.f k l) (edge l) := by
 have n0 := b.v.n0
 have n1 := b.v.n1
 have hlen := colN_len l l
 obtain ⟨s1, s2⟩ := sortC_spec (colN l l)
 have hpos : 0 < (colN l l).length := by
  obtain ⟨u, hu, eu⟩ := lw_at b.v.n0
  rw [b.v.lw0 b.v.n0] at eu
  refine List.length_pos_of_mem ((colN_mem l ⟨-1, u.f1⟩).2 ⟨⟨u, hu, (nb_near u _).2 ⟨1, by omega, ?_⟩⟩, fun hm => ?_⟩)
  ·show (⟨-1, u.f1⟩ : Cl) = ⟨u.f0 + -1, u.f1 + 0⟩
   rw [eu, Int.add_zero]; rfl
  ·obtain ⟨⟨h1, _⟩, _⟩ := b.v.each _ hm
   simp only at h1
   omega
 have hs : slices_SortFunc_compareCells.f (colN l l) = some (sortC (colN l l)) := by
  unfold slices_SortFunc_compareCells.f
  rw [if_pos ⟨hpos, by omega⟩]
 have hlen2 : (sortC (colN l l)).length = (colN l l).length := sortC_len _
 have hc := compact_ev (sortC (colN l l)) (by omega)
 have he : dd (sortC (colN l l)) (sortC (colN l l)).length = edge l := by
  obtain ⟨d1, d2, _⟩ := dd_spec s1 _ (Nat.le_refl _)
  refine bf_ext _ _ d1 (edge_bf l) (fun x => ?_)
  rw [d2, List.take_length, s2.mem_iff, colN_mem, edge_mem]
  constructor
  ·rintro ⟨⟨c, hc, h⟩, h2⟩
   obtain ⟨⟨f1, f2⟩, f3, f4⟩ := IsB.far b c hc
   have m1 := nr_f0 h
   have m2 := nr_f0 (by rw [nr_symm]; exact h)
   exact ⟨by omega, by omega, ⟨c, hc, h⟩, h2⟩
  ·rintro ⟨_, _, h1, h2⟩
   exact ⟨h1, h2⟩
 rw [he] at hc
 unfold impl_besides.f
 refine bes_l0 l n1 b.v.each (edge l) (somb hs (Ev.bind hc (done rfl))) 0 (Nat.zero_le _) [] (by simp) ?_
 rw [List.drop_zero]; rfl
/-! ### one cell more -/
theorem one_pos (l : List Cl) (c : Cl) : 0 < (l ++ [c]).length := by rw [List.length_append]; simp
theorem ins_pos (c : Cl) (l : List Cl) : 0 < (ins c l).length := by rw [ins_len]; omega
theorem one_small {l : List Cl} {c : Cl} (hs : ∀ x ∈ l, Small x) (hc : Small c) : ∀ x ∈ l ++ [c], Small x := by
 intro x hx
 rcases List.mem_append.1 hx with h | h
 ·exact hs x h
 ·rw [List.mem_singleton] at h; rw [h]; exact hc
theorem withCell_ev {l : List Cl} (hn : l.length ≤ 900) (hs : ∀ x ∈ l, Small x) {c : Cl} (hc : Small c) : Ev (fun k => impl_withCell.f k l c.f0 c.f1) (pd (l ++ [c]) (one_pos l c)) := by
 have hcl : slices_Clone.f l = some l := by unfold slices_Clone.f; rw [if_pos (by omega)]
 have hp := put_ev (l ++ [c]) (one_pos l c) (by rw [List.length_append, List.length_singleton]; omega) (one_small hs hc)
 unfold impl_withCell.f
 refine somb hcl (somb rfl (ifp (by rw [List.length_singleton]; omega) (Ev.bind hp (done rfl))))
theorem ins_ev {l : List Cl} (hn : l.length ≤ 900) (hs : ∀ x ∈ l, Small x) {c : Cl} (hc : Small c) : Ev (fun k => spec_l8Put.f k l c.f0 c.f1) (ins c l) ∧ Ev (fun k => spec_l8Down.f k (ins c l)) (pd (l ++ [c]) (one_pos l c)) := by
 have hp : (ins c l).Perm (l ++ [c]) := (ins_perm c l).trans (List.perm_append_comm (l₁ := [c]) (l₂ := l))
 refine ⟨l8Put_ev l (by omega) c, ?_⟩
 have hd := l8Down_ev (ins c l) (ins_pos c l) (by rw [ins_len]; omega) (fun x hx => one_small hs hc x (hp.mem_iff.1 hx))
 rw [pd_of_perm hp (ins_pos c l) (one_pos l c)] at hd
 exact hd
theorem one_body {l : List Cl} (b : IsB l) (hn : l.length ≤ 11) {c : Cl} (hc : c ∈ edge l) : IsB (pd (l ++ [c]) (one_pos l c)) := by
 obtain ⟨h1, h2, ⟨y, hy, h3⟩, h4⟩ := (edge_mem l c).1 hc
 have hcs : Small c := ⟨⟨by omega, by omega⟩, by omega, by omega⟩
 refine pd_isB _ (by rw [List.length_append, List.length_singleton]; omega) (one_small (fun x hx => (b.v.each x hx).small) hcs) ?_ ?_
 ·rw [List.nodup_append]
  refine ⟨b.nd, by simp, fun a ha x hx e => ?_⟩
  rw [List.mem_singleton] at hx
  subst hx; subst e; exact h4 ha
 ·have up : ∀ a x, Vr l a x → Vr (l ++ [c]) a x := fun a x h => Vr.congr (fun u hu => List.mem_append_left _ hu) h
  have hcm : c ∈ l ++ [c] := by simp
  have hym : y ∈ l ++ [c] := List.mem_append_left _ hy
  have hyc : Vr (l ++ [c]) y c := Vr.step Vr.base hcm (by rw [nr_symm]; exact h3)
  have hcy : Vr (l ++ [c]) c y := Vr.symm hym hyc
  intro a ha x hx
  have k1 : Vr (l ++ [c]) a y := by
   rcases List.mem_append.1 ha with h | h
   ·exact up _ _ (b.h a h y hy)
   ·rw [List.mem_singleton] at h; rw [h]; exact hcy
  have k2 : Vr (l ++ [c]) y x := by
   rcases List.mem_append.1 hx with h | h
   ·exact up _ _ (b.h y hy x h)
   ·rw [List.mem_singleton] at h; rw [h]; exact hyc
  exact k1.trans k2
end Go.Proofs.YtckhmeadflafaaaGreat.PureBesides
