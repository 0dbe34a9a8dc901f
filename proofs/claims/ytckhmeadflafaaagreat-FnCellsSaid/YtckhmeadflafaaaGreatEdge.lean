/- The cells besides a body, as the reference lists them. No conditions beyond those of the lemmas' own hypotheses. -/
import Derived.Test.YtckhmeadflafaaaGreatBody
import Derived.Test.YtckhmeadflafaaaGreatHas
import Derived.Test.YtckhmeadflafaaaGreatXFcx1
namespace Go.Proofs.YtckhmeadflafaaaGreat.PureEdge
open Go.RowKit YtckhmeadflafaaaGreat.XFc YtckhmeadflafaaaGreat.Plain YtckhmeadflafaaaGreat.PureCells YtckhmeadflafaaaGreat.PureBody YtckhmeadflafaaaGreat.PureHas YtckhmeadflafaaaGreatW.PrintWords YtckhmeadflafaaaGreatW.PrintLast YtckhmeadflafaaaGreatW.PrintMore
set_option linter.unusedVariables false
def nx (l : List Cl) (x y : Int) : Bool := l.any fun c => nr c ⟨x, y⟩
def isEdge (l : List Cl) (x y : Int) : Bool := nx l x y && !hsC l x y
def rowE (l : List Cl) (x : Int) : Nat → List Cl
 | 0 => []
 | n + 1 => (if isEdge l x (12 - (n : Int)) = true then [⟨x, 12 - (n : Int)⟩] else []) ++ rowE l x n
def colE (l : List Cl) : Nat → List Cl
 | 0 => []
 | n + 1 => rowE l (12 - (n : Int)) 14 ++ colE l n
theorem rowE_len (l : List Cl) (x : Int) : ∀ n, (rowE l x n).length ≤ n := by
 intro n
 induction n with
 | zero => exact Nat.le_refl _
 | succ n ih =>
  show ((if isEdge l x (12 - (n : Int)) = true then [(⟨x, 12 - (n : Int)⟩ : Cl)] else []) ++ rowE l x n).length ≤ n + 1
  rw [List.length_append]
  by_cases h : isEdge l x (12 - (n : Int)) = true
  ·rw [if_pos h]; simp only [List.length_singleton]; omega
  ·rw [if_neg h]; simp only [List.length_nil]; omega
theorem colE_len (l : List Cl) : ∀ n, (colE l n).length ≤ 14 * n := by
 intro n
 induction n with
 | zero => exact Nat.le_refl _
 | succ n ih =>
  show (rowE l (12 - (n : Int)) 14 ++ colE l n).length ≤ 14 * (n + 1)
  rw [List.length_append]
  have := rowE_len l (12 - (n : Int)) 14
  omega
theorem rowE_mem (l : List Cl) (x : Int) (z : Cl) : ∀ n : Nat, z ∈ rowE l x n ↔ z.f0 = x ∧ 13 - (n : Int) ≤ z.f1 ∧ z.f1 ≤ 12 ∧ isEdge l z.f0 z.f1 = true := by
 intro n
 induction n with
 | zero => exact ⟨fun h => absurd h (by simp [rowE]), fun h => absurd h.2 (by omega)⟩
 | succ n ih =>
  show z ∈ (if isEdge l x (12 - (n : Int)) = true then [(⟨x, 12 - (n : Int)⟩ : Cl)] else []) ++ rowE l x n ↔ _
  rw [List.mem_append, ih]
  constructor
  ·rintro (h | ⟨h1, h2, h3, h4⟩)
   ·by_cases he : isEdge l x (12 - (n : Int)) = true
    ·rw [if_pos he, List.mem_singleton] at h
     subst h
     exact ⟨rfl, by show 13 - ((n + 1 : Nat) : Int) ≤ 12 - (n : Int); omega, by show 12 - (n : Int) ≤ 12; omega, he⟩
    ·rw [if_neg he] at h; cases h
   ·exact ⟨h1, by omega, h3, h4⟩
  ·rintro ⟨h1, h2, h3, h4⟩
   by_cases hz : z.f1 = 12 - (n : Int)
   ·left
    rw [h1, hz] at h4
    rw [if_pos h4, List.mem_singleton]
    cases z
    simp only at h1 hz
    rw [h1, hz]
   ·exact Or.inr ⟨h1, by omega, h3, h4⟩
theorem colE_mem (l : List Cl) (z : Cl) : ∀ n : Nat, z ∈ colE l n ↔ 13 - (n : Int) ≤ z.f0 ∧ z.f0 ≤ 12 ∧ -1 ≤ z.f1 ∧ z.f1 ≤ 12 ∧ isEdge l z.f0 z.f1 = true := by
 intro n
 induction n with
 | zero => exact ⟨fun h => absurd h (by simp [colE]), fun h => absurd h (by omega)⟩
 | succ n ih =>
  show z ∈ rowE l (12 - (n : Int)) 14 ++ colE l n ↔ _
  rw [List.mem_append, ih, rowE_mem]
  constructor
  ·rintro (⟨h1, h2, h3, h4⟩ | ⟨h1, h2, h3, h4⟩)
   ·exact ⟨by omega, by omega, by omega, h3, h4⟩
   ·exact ⟨by omega, h2, h3, h4⟩
  ·rintro ⟨h1, h2, h3, h4, h5⟩
   by_cases hz : z.f0 = 12 - (n : Int)
   ·exact Or.inl ⟨hz, by omega, h4, h5⟩
   ·exact Or.inr ⟨by omega, h2, h3, h4, h5⟩
theorem edge_l2 (l : List Cl) (hn : l.length ≤ 1000) (hs : ∀ c ∈ l, Small c) (acc : List Cl) (ha : acc.length ≤ 1000) (x y : Int) (hx : -1 ≤ x ∧ x ≤ 12) (hy : -1 ≤ y ∧ y ≤ 12) (r : List Cl) (h : Ev (fun k => spec_l8Edge.l1 k l (acc ++ (if isEdge l x y = true then [⟨x, y⟩] else [])) x (y + 1)) r) :
  ∀ i, i ≤ l.length → ∀ nb : Bool, nb = nx (l.take i) x y → Ev (fun k => spec_l8Edge.l2 k l acc x y nb (i : Int)) r := by
 have hwy : wrap64 (y + 1) = y + 1 := w64 (by omega) (by omega)
 have hal : acc.length < 8796093022208 := by omega
 refine downTo l.length ?_ ?_
 ·intro nb hnb
  rw [List.take_length] at hnb
  have nlt : ¬ (l.length : Int) < (l.length : Int) := Int.lt_irrefl _
  refine Ev.step (fun k => by simp only [spec_l8Edge.l2]; exact rfl) (ifn nlt ?_)
  rw [hwy]
  cases hb : nb with
  | false =>
   have : ¬ isEdge l x y = true := by unfold isEdge; rw [← hnb, hb]; simp
   rw [if_neg this, List.append_nil] at h
   exact ifn Bool.false_ne_true h
  | true =>
   obtain ⟨t, t1, t2⟩ := has_ev l hn x y
   refine ifp (Eq.refl true) (Ev.bind t1 ?_)
   by_cases ht : t < 0
   ·have hh : isEdge l x y = true := by
     unfold isEdge
     rw [← hnb, hb]
     cases hc : hsC l x y with
     | true => exact absurd (t2.2 hc) (by omega)
     | false => rfl
    rw [if_pos hh] at h
    exact ifp ht (ifp hal h)
   ·have hh : ¬ isEdge l x y = true := by
     unfold isEdge
     rw [t2.1 (by omega)]; simp
    rw [if_neg hh, List.append_nil] at h
    exact ifn ht h
 ·intro i hi ih nb hnb
  have hil : (i : Int) < (l.length : Int) := by omega
  have hi0 : 0 ≤ (i : Int) := by omega
  have hw : wrap64 ((i : Int) + 1) = ((i + 1 : Nat) : Int) := wrapS hi (by omega)
  have hst : nx (l.take (i + 1)) x y = (nx (l.take i) x y || nr l[i] ⟨x, y⟩) := by
   unfold nx; rw [take_succ hi, List.any_append]; simp
  refine Ev.step (fun k => by simp only [spec_l8Edge.l2]; exact rfl) (ifp hil ?_)
  rw [hw]
  cases hb : nb with
  | true =>
   exact ifp (Eq.refl true) (ih true (by rw [hst, ← hnb, hb]; rfl))
  | false =>
   have hne := near_eq (hs l[i] (List.getElem_mem hi)) (y := (⟨x, y⟩ : Cl)) ⟨⟨by show -1000000 ≤ x; omega, by show x ≤ 1000000; omega⟩, by show -1000000 ≤ y; omega, by show y ≤ 1000000; omega⟩
   refine ifn Bool.false_ne_true (ifp hi0 ?_)
   rw [rdC hi]
   exact somb hne (ih _ (by rw [hst, ← hnb, hb]; rfl))
theorem edge_l1 (l : List Cl) (hn : l.length ≤ 1000) (hs : ∀ c ∈ l, Small c) (x : Int) (hx : -1 ≤ x ∧ x ≤ 12) (r : List Cl) :
  ∀ n : Nat, n ≤ 14 → ∀ acc : List Cl, acc.length + n ≤ 1000 → Ev (fun k => spec_l8Edge.l0 k l (acc ++ rowE l x n) (x + 1)) r → Ev (fun k => spec_l8Edge.l1 k l acc x (13 - (n : Int))) r := by
 intro n
 induction n with
 | zero =>
  intro _ acc ha h
  have hwx : wrap64 (x + 1) = x + 1 := w64 (by omega) (by omega)
  have nlt : ¬ (13 - ((0 : Nat) : Int)) ≤ 12 := by omega
  refine Ev.step (fun k => by simp only [spec_l8Edge.l1]; exact rfl) (ifn nlt ?_)
  rw [hwx]
  have e : acc ++ rowE l x 0 = acc := List.append_nil acc
  rw [e] at h
  exact h
 | succ n ih =>
  intro hn2 acc ha h
  have hlt : (13 - ((n + 1 : Nat) : Int)) ≤ 12 := by omega
  have hy : (13 - ((n + 1 : Nat) : Int)) = 12 - (n : Int) := by omega
  refine Ev.step (fun k => by simp only [spec_l8Edge.l1]; exact rfl) (ifp hlt ?_)
  rw [hy]
  refine edge_l2 l hn hs acc (by omega) x (12 - (n : Int)) hx (by omega) r ?_ 0 (Nat.zero_le _) false (by simp [nx])
  have e : (12 - (n : Int)) + 1 = 13 - (n : Int) := by omega
  rw [e]
  refine ih (by omega) _ ?_ ?_
  ·rw [List.length_append]
   by_cases hh : isEdge l x (12 - (n : Int)) = true
   ·rw [if_pos hh]; simp only [List.length_singleton]; omega
   ·rw [if_neg hh]; simp only [List.length_nil]; omega
  ·rw [List.append_assoc]; exact h
theorem edge_l0 (l : List Cl) (hn : l.length ≤ 1000) (hs : ∀ c ∈ l, Small c) :
  ∀ n : Nat, n ≤ 14 → ∀ acc : List Cl, acc.length + 14 * n ≤ 500 → Ev (fun k => spec_l8Edge.l0 k l acc (13 - (n : Int))) (acc ++ colE l n) := by
 intro n
 induction n with
 | zero =>
  intro _ acc ha
  have nlt : ¬ (13 - ((0 : Nat) : Int)) ≤ 12 := by omega
  exact Ev.step (fun k => by simp only [spec_l8Edge.l0]; exact rfl) (ifn nlt (done (List.append_nil acc).symm))
 | succ n ih =>
  intro hn2 acc ha
  have hlt : (13 - ((n + 1 : Nat) : Int)) ≤ 12 := by omega
  have hx : (13 - ((n + 1 : Nat) : Int)) = 12 - (n : Int) := by omega
  refine Ev.step (fun k => by simp only [spec_l8Edge.l0]; exact rfl) (ifp hlt ?_)
  rw [hx]
  have hl := rowE_len l (12 - (n : Int)) 14
  have h := ih (by omega) (acc ++ rowE l (12 - (n : Int)) 14) (by rw [List.length_append]; omega)
  have e : (12 - (n : Int)) + 1 = 13 - (n : Int) := by omega
  have e2 : acc ++ colE l (n + 1) = (acc ++ rowE l (12 - (n : Int)) 14) ++ colE l n := by rw [List.append_assoc]; rfl
  rw [e2]
  have h2 := edge_l1 l hn hs (12 - (n : Int)) (by omega) _ 14 (Nat.le_refl _) acc (by omega) (by rw [e]; exact h)
  exact h2
def edge (l : List Cl) : List Cl := colE l 14
theorem edge_ev (l : List Cl) (hn : l.length ≤ 1000) (hs : ∀ c ∈ l, Small c) : Ev (fun k => spec_l8Edge.f k l) (edge l) := edge_l0 l hn hs 14 (Nat.le_refl _) [] (by simp)
theorem edge_len (l : List Cl) : (edge l).length ≤ 196 := colE_len l 14
theorem edge_mem (l : List Cl) (z : Cl) : z ∈ edge l ↔ (-1 ≤ z.f0 ∧ z.f0 ≤ 12) ∧ (-1 ≤ z.f1 ∧ z.f1 ≤ 12) ∧ (∃ c ∈ l, nr c z = true) ∧ z ∉ l := by
 have e : isEdge l z.f0 z.f1 = true ↔ (∃ c ∈ l, nr c z = true) ∧ z ∉ l := by
  unfold isEdge nx hsC
  rw [Bool.and_eq_true, List.any_eq_true, Bool.not_eq_true', ← Bool.not_eq_true, List.any_eq_true]
  refine and_congr Iff.rfl (not_congr ⟨?_, fun h => ⟨z, h, decide_eq_true ⟨rfl, rfl⟩⟩⟩)
  rintro ⟨c, hc, h⟩
  have h := of_decide_eq_true h
  cases z; cases c
  simp only at h
  rw [h.1, h.2] at hc
  exact hc
 unfold edge
 rw [colE_mem, e]
 constructor
 ·rintro ⟨h1, h2, h3, h4, h5⟩; exact ⟨⟨by omega, h2⟩, ⟨h3, h4⟩, h5⟩
 ·rintro ⟨⟨h1, h2⟩, ⟨h3, h4⟩, h5⟩; exact ⟨by omega, h2, h3, h4, h5⟩
end Go.Proofs.YtckhmeadflafaaaGreat.PureEdge
