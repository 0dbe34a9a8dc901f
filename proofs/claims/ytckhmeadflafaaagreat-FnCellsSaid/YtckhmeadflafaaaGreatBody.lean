/- Whether cells are a body, in the program and in the reference alike. No conditions beyond those of the lemmas' own hypotheses. -/
import Derived.Test.YtckhmeadflafaaaGreatCells
import Derived.Test.YtckhmeadflafaaaGreatXFcx4
import Derived.Test.YtckhmeadflafaaaGreatXFcx3
namespace Go.Proofs.YtckhmeadflafaaaGreat.PureBody
open Go.RowKit YtckhmeadflafaaaGreat.XFc YtckhmeadflafaaaGreat.Plain YtckhmeadflafaaaGreat.PureCells YtckhmeadflafaaaGreatW.PrintWords YtckhmeadflafaaaGreatW.PrintLast YtckhmeadflafaaaGreatW.PrintMore
set_option linter.unusedVariables false

theorem l1In_eq (a b c : Int) : spec_l1In.f a b c = some (decide (b ≤ a ∧ a ≤ c)) := by
 unfold spec_l1In.f
 by_cases h : b ≤ a
 ·rw [if_pos h]; simp [h]
 ·rw [if_neg h]; simp [h]
theorem within_eq (a b c : Int) : impl_within.f a b c = some (decide (b ≤ a ∧ a ≤ c)) := by
 unfold impl_within.f
 by_cases h : b ≤ a
 ·rw [if_pos h]; simp [h]
 ·rw [if_neg h]; simp [h]
theorem least_eq (a b : Int) : spec_l1Least.f a b = some (mn a b) := by
 unfold spec_l1Least.f mn
 by_cases h : a < b
 ·rw [if_pos h]; congr 1; split <;> omega
 ·rw [if_neg h]; congr 1; split <;> omega

/-! ### the order of cells -/
def bef (x y : Cl) : Bool := if x.f0 < y.f0 then true else if x.f0 = y.f0 then decide (x.f1 < y.f1) else false
theorem before_eq (x y : Cl) : spec_l8Before.f x.f0 x.f1 y.f0 y.f1 = some (bef x y) := by
 unfold spec_l8Before.f bef
 by_cases h : x.f0 < y.f0
 ·rw [if_pos h, if_pos h]
 ·rw [if_neg h, if_neg h]
  by_cases h2 : x.f0 = y.f0
  ·rw [if_pos h2, if_pos h2]
  ·rw [if_neg h2, if_neg h2]
def cmpv (a b : Int) : Int := if a < b then -1 else if a > b then 1 else 0
theorem compare_eq (a b : Int) : cmp_Compare.f a b = some (cmpv a b) := by
 unfold cmp_Compare.f cmp_isNaN.f cmpv
 simp only [bne_self_eq_false, Option.bind_some]
 rw [if_neg Bool.false_ne_true, if_neg Bool.false_ne_true]
 by_cases h : a < b
 ·rw [if_pos h, if_pos h]
 ·rw [if_neg h, if_neg h]
  by_cases h2 : a > b
  ·rw [if_pos h2, if_pos h2]
  ·rw [if_neg h2, if_neg h2]
def cc (x y : Cl) : Int := if cmpv x.f0 y.f0 = 0 then cmpv x.f1 y.f1 else cmpv x.f0 y.f0
theorem compareCells_ev (x y : Cl) : Ev (fun k => impl_compareCells.f k x.f0 x.f1 y.f0 y.f1) (cc x y) := by
 unfold impl_compareCells.f slices_Compare.f cc
 have e2 : Ev (fun k => slices_Compare.l0 k [x.f0, x.f1] [y.f0, y.f1] [x.f0, x.f1] (([x.f0, x.f1] : List Int).length : Int) 2) 0 := Ev.step (fun k => by simp only [slices_Compare.l0]; exact rfl) (ifn (by simp) (ifn (by simp) (done rfl)))
 have e1 : Ev (fun k => slices_Compare.l0 k [x.f0, x.f1] [y.f0, y.f1] [x.f0, x.f1] (([x.f0, x.f1] : List Int).length : Int) 1) (cmpv x.f1 y.f1) := by
  refine Ev.step (fun k => by simp only [slices_Compare.l0]; exact rfl) (ifp (by simp) (ifp (by omega) (ifp (by simp) (ifn (by simp) (ifp (by simp) (somb (compare_eq _ _) ?_))))))
  rw [show rd [x.f0, x.f1] 1 = x.f1 from rfl, show rd [y.f0, y.f1] 1 = y.f1 from rfl, show wrap64 ((1 : Int) + 1) = 2 from by rw [w64 (by omega) (by omega)]; rfl]
  by_cases h : cmpv x.f1 y.f1 = 0
  ·refine ifp h ?_
   rw [h]; exact e2
  ·exact ifn h (done rfl)
 refine Ev.step (fun k => by simp only [slices_Compare.l0]; exact rfl) (ifp (by simp) (ifp (by omega) (ifp (by simp) (ifn (by simp) (ifp (by simp) (somb (compare_eq _ _) ?_))))))
 rw [show rd [x.f0, x.f1] 0 = x.f0 from rfl, show rd [y.f0, y.f1] 0 = y.f0 from rfl, show wrap64 ((0 : Int) + 1) = 1 from by rw [w64 (by omega) (by omega)]; rfl]
 by_cases h : cmpv x.f0 y.f0 = 0
 ·rw [if_pos h]
  exact ifp h e1
 ·rw [if_neg h]
  exact ifn h (done rfl)
theorem cc_bef (x y : Cl) : cc x y ≥ 0 ↔ bef x y = false := by
 unfold cc cmpv bef
 by_cases h : x.f0 < y.f0
 ·simp [h]
 ·by_cases h2 : x.f0 > y.f0
  ·have h3 : ¬ x.f0 = y.f0 := by omega
   simp [h, h2, h3]
  ·have h3 : x.f0 = y.f0 := by omega
   by_cases h4 : x.f1 < y.f1
   ·simp [h3, h4]
   ·by_cases h5 : x.f1 > y.f1
    ·simp [h3, h4, h5]
    ·simp [h3, h4, h5]

/-! ### the least numbers -/
def lw (a : Int) (l : List Cl) : Int := l.foldl (fun a x => mn a x.f0) a
def dn (a : Int) (l : List Cl) : Int := l.foldl (fun a x => mn a x.f1) a
theorem leastOf_l0 (l : List Cl) (hn : l.length ≤ 1048576) : ∀ i, i ≤ l.length → ∀ a b, Ev (fun k => impl_leastOf.l0 k l (l.length : Int) (i : Int) a b) (lw a (l.drop i), dn b (l.drop i)) := by
 refine downTo l.length ?_ ?_
 ·intro a b
  refine Ev.step (fun k => by simp only [impl_leastOf.l0]; exact rfl) (ifn (by omega) (done ?_))
  rw [List.drop_length]; rfl
 ·intro i hi ih a b
  refine Ev.step (fun k => by simp only [impl_leastOf.l0]; exact rfl) (ifp (by omega) (ifp (by omega) (ifp (by omega) ?_)))
  rw [rdC hi, wrapS hi (by omega), drop_cons hi]
  exact ih _ _
theorem leastOf_ev (l : List Cl) (h0 : 0 < l.length) (hn : l.length ≤ 1048576) : Ev (fun k => impl_leastOf.f k l) (lw l[0].f0 l, dn l[0].f1 l) := by
 unfold impl_leastOf.f
 refine ifp (by omega) ?_
 have e := leastOf_l0 l hn 0 (Nat.zero_le _) l[0].f0 l[0].f1
 have r0 : rd_T37 l 0 = l[0] := rdC h0
 rw [r0]
 exact e
theorem dn_mem (l : List Cl) : ∀ a, dn a l = a ∨ ∃ x ∈ l, x.f1 = dn a l := by
 induction l with
 | nil => intro a; exact Or.inl rfl
 | cons x l ih =>
  intro a
  show dn (mn a x.f1) l = a ∨ ∃ y ∈ x :: l, y.f1 = dn (mn a x.f1) l
  rcases ih (mn a x.f1) with h | ⟨y, hy, h⟩
  ·rw [h]
   unfold mn
   by_cases hh : a ≤ x.f1
   ·left; split <;> omega
   ·right; refine ⟨x, List.mem_cons_self, ?_⟩; split <;> omega
  ·exact Or.inr ⟨y, List.mem_cons_of_mem _ hy, h⟩

/-! ### bodies -/
theorem cT {a b : Int} (h : a = 0) (h2 : b = 0) : (a == 0 && (b == 0)) = true := by simp [h, h2]
theorem cF1 {a b : Int} (h : ¬ a = 0) : ¬ ((a == 0 && (b == 0)) = true) := by simp [h]
theorem cF2 {a b : Int} (h : ¬ b = 0) : ¬ ((a == 0 && (b == 0)) = true) := by simp [h]
def InR (x : Cl) : Prop := (0 ≤ x.f0 ∧ x.f0 ≤ 12) ∧ 0 ≤ x.f1 ∧ x.f1 ≤ 12
theorem InR.small {x : Cl} (h : InR x) : Small x := by
 obtain ⟨⟨a, b⟩, c, d⟩ := h
 exact ⟨⟨by omega, by omega⟩, by omega, by omega⟩
/-- What is left to be asked of a body from one cell on. -/
def BP (l : List Cl) (h0 : 0 < l.length) (i : Nat) : Prop := (∀ j, (h : j < l.length) → i ≤ j → InR l[j] ∧ (0 < j → bef l[j - 1] l[j] = true)) ∧ lw l[0].f0 l = 0 ∧ dn l[0].f1 l = 0 ∧ Ev (fun k => spec_l8Hangs.f k l) true
theorem body_rel (l : List Cl) (h0 : 0 < l.length) (hn : l.length ≤ 12) : ∀ i, i ≤ l.length → (∀ j, (h : j < l.length) → j < i → InR l[j]) → ∃ r, Ev (fun k => spec_l8Body.l0 k l (lw l[0].f0 (l.take i)) (dn l[0].f1 (l.take i)) (i : Int)) r ∧ Ev (fun k => impl_IsBody.l0 k l l (l.length : Int) (i : Int)) r ∧ (r = true ↔ BP l h0 i) := by
 refine downTo l.length ?_ ?_
 ·intro hr
  have hs : ∀ x ∈ l, Small x := by
   intro x hx
   obtain ⟨j, hj, rfl⟩ := List.getElem_of_mem hx
   exact (hr j hj hj).small
  have e0 := leastOf_ev l h0 (by omega)
  obtain ⟨r, e1, e2⟩ := hangs_ev l h0 (by omega) hs
  rw [List.take_length]
  by_cases hx : lw l[0].f0 l = 0
  ·by_cases hy : dn l[0].f1 l = 0
   ·refine ⟨r, Ev.step (fun k => by simp only [spec_l8Body.l0]; exact rfl) (ifn (by omega) (ifp hx (ifp hy (Ev.bind e1 (done rfl))))), Ev.step (fun k => by simp only [impl_IsBody.l0]; exact rfl) (ifn (by omega) (Ev.bind e0 (ifp (cT hx hy) (Ev.bind e2 (done rfl))))), ⟨fun h => ⟨fun j hj h => by omega, hx, hy, h ▸ e1⟩, fun h => ev_fun e1 h.2.2.2⟩⟩
   ·exact ⟨false, Ev.step (fun k => by simp only [spec_l8Body.l0]; exact rfl) (ifn (by omega) (ifp hx (ifn hy (done rfl)))), Ev.step (fun k => by simp only [impl_IsBody.l0]; exact rfl) (ifn (by omega) (Ev.bind e0 (ifn (cF2 hy) (done rfl)))), ⟨fun h => absurd h Bool.false_ne_true, fun h => absurd h.2.2.1 hy⟩⟩
  ·exact ⟨false, Ev.step (fun k => by simp only [spec_l8Body.l0]; exact rfl) (ifn (by omega) (ifn hx (done rfl))), Ev.step (fun k => by simp only [impl_IsBody.l0]; exact rfl) (ifn (by omega) (Ev.bind e0 (ifn (cF1 hx) (done rfl)))), ⟨fun h => absurd h Bool.false_ne_true, fun h => absurd h.2.1 hx⟩⟩
 ·intro i hi ih hr
  have hi0 : 0 ≤ (i : Int) := by omega
  have hil : (i : Int) < (l.length : Int) := by omega
  have hw : wrap64 ((i : Int) + 1) = ((i + 1 : Nat) : Int) := wrapS hi (by omega)
  have stop : Ev (fun k => spec_l8Body.j1 k l (lw l[0].f0 (l.take i)) (dn l[0].f1 (l.take i)) (i : Int) true) false := Ev.step (fun k => by simp only [spec_l8Body.j1]; exact rfl) (ifp (Eq.refl true) (done rfl))
  by_cases c0 : 0 ≤ l[i].f0 ∧ l[i].f0 ≤ 12
  ·by_cases c1 : 0 ≤ l[i].f1 ∧ l[i].f1 ≤ 12
   ·obtain ⟨r, e1, e2, e3⟩ := ih (fun j hj hji => by
     by_cases e : j = i
     ·subst e; exact ⟨c0, c1⟩
     ·exact hr j hj (by omega))
    have go : Ev (fun k => spec_l8Body.j1 k l (lw l[0].f0 (l.take i)) (dn l[0].f1 (l.take i)) (i : Int) false) r := by
     refine Ev.step (fun k => by simp only [spec_l8Body.j1]; exact rfl) (ifn Bool.false_ne_true (ifp hi0 (ifp hil (somb (least_eq _ _) (somb (least_eq _ _) ?_)))))
     rw [rdC hi, hw]
     rw [take_succ hi] at e1
     unfold lw dn at e1
     rw [List.foldl_append, List.foldl_append] at e1
     exact e1
    by_cases hz : i = 0
    ·subst hz
     refine ⟨r, Ev.step (fun k => by simp only [spec_l8Body.l0]; exact rfl) (ifp hil (ifp hi0 ?_)), Ev.step (fun k => by simp only [impl_IsBody.l0]; exact rfl) (ifp hil (ifp hi0 (ifp hil ?_))), ⟨fun h => ?_, fun h => e3.2 ⟨fun j hj hji => h.1 j hj (by omega), h.2⟩⟩⟩
     ·rw [rdC hi]
      exact somb (l1In_eq _ _ _) (ifp (decide_eq_true c0) (somb (l1In_eq _ _ _) (ifp (decide_eq_true c1) (ifn (by omega) go))))
     ·rw [rdC hi]
      refine somb (within_eq _ _ _) (ifp (decide_eq_true c0) (somb (within_eq _ _ _) (ifp (decide_eq_true c1) (ifn (by omega) ?_))))
      rw [hw]; exact e2
     ·obtain ⟨f1, f2, f3⟩ := e3.1 h
      refine ⟨fun j hj hji => ?_, f2, f3⟩
      by_cases e : j = 0
      ·subst e; exact ⟨⟨c0, c1⟩, fun h => absurd h (by omega)⟩
      ·exact f1 j hj (by omega)
    ·have hp : i - 1 < l.length := by omega
     have hpw : wrap64 ((i : Int) - 1) = ((i - 1 : Nat) : Int) := by rw [w64 (by omega) (by omega)]; omega
     have hb := compareCells_ev l[i - 1] l[i]
     have hcc := cc_bef l[i - 1] l[i]
     cases hbf : bef l[i - 1] l[i] with
     | true =>
      refine ⟨r, Ev.step (fun k => by simp only [spec_l8Body.l0]; exact rfl) (ifp hil (ifp hi0 ?_)), Ev.step (fun k => by simp only [impl_IsBody.l0]; exact rfl) (ifp hil (ifp hi0 (ifp hil ?_))), ⟨fun h => ?_, fun h => e3.2 ⟨fun j hj hji => h.1 j hj (by omega), h.2⟩⟩⟩
      ·rw [rdC hi, hpw, rdC hp]
       refine somb (l1In_eq _ _ _) (ifp (decide_eq_true c0) (somb (l1In_eq _ _ _) (ifp (decide_eq_true c1) (ifp (by omega) (ifp (by omega) (ifp (by omega) (somb (before_eq _ _) ?_)))))))
       rw [hbf]; exact go
      ·rw [rdC hi, hpw, rdC hp]
       refine somb (within_eq _ _ _) (ifp (decide_eq_true c0) (somb (within_eq _ _ _) (ifp (decide_eq_true c1) (ifp (by omega) (ifp (by omega) (ifp (by omega) (Ev.bind hb (ifn ?_ ?_))))))))
       ·intro e; rw [hcc, hbf] at e; exact absurd e.symm Bool.false_ne_true
       ·rw [hw]; exact e2
      ·obtain ⟨f1, f2, f3⟩ := e3.1 h
       refine ⟨fun j hj hji => ?_, f2, f3⟩
       by_cases e : j = i
       ·subst e; exact ⟨⟨c0, c1⟩, fun _ => hbf⟩
       ·exact f1 j hj (by omega)
     | false =>
      refine ⟨false, Ev.step (fun k => by simp only [spec_l8Body.l0]; exact rfl) (ifp hil (ifp hi0 ?_)), Ev.step (fun k => by simp only [impl_IsBody.l0]; exact rfl) (ifp hil (ifp hi0 (ifp hil ?_))), ⟨fun h => absurd h Bool.false_ne_true, fun h => absurd ((h.1 i hi (Nat.le_refl _)).2 (by omega)) (by rw [hbf]; exact Bool.false_ne_true)⟩⟩
      ·rw [rdC hi, hpw, rdC hp]
       refine somb (l1In_eq _ _ _) (ifp (decide_eq_true c0) (somb (l1In_eq _ _ _) (ifp (decide_eq_true c1) (ifp (by omega) (ifp (by omega) (ifp (by omega) (somb (before_eq _ _) ?_)))))))
       rw [hbf]; exact stop
      ·rw [rdC hi, hpw, rdC hp]
       refine somb (within_eq _ _ _) (ifp (decide_eq_true c0) (somb (within_eq _ _ _) (ifp (decide_eq_true c1) (ifp (by omega) (ifp (by omega) (ifp (by omega) (Ev.bind hb ?_)))))))
       exact ifp (hcc.2 hbf) (done rfl)
   ·have nf : ¬ (decide (0 ≤ l[i].f1 ∧ l[i].f1 ≤ 12) = true) := by rw [decide_eq_false c1]; exact Bool.false_ne_true
    refine ⟨false, Ev.step (fun k => by simp only [spec_l8Body.l0]; exact rfl) (ifp hil (ifp hi0 ?_)), Ev.step (fun k => by simp only [impl_IsBody.l0]; exact rfl) (ifp hil (ifp hi0 (ifp hil ?_))), ⟨fun h => absurd h Bool.false_ne_true, fun h => absurd (h.1 i hi (Nat.le_refl _)).1.2 c1⟩⟩
    ·rw [rdC hi]
     exact somb (l1In_eq _ _ _) (ifp (decide_eq_true c0) (somb (l1In_eq _ _ _) (ifn nf stop)))
    ·rw [rdC hi]
     exact somb (within_eq _ _ _) (ifp (decide_eq_true c0) (somb (within_eq _ _ _) (ifn nf (done rfl))))
  ·have nf : ¬ (decide (0 ≤ l[i].f0 ∧ l[i].f0 ≤ 12) = true) := by rw [decide_eq_false c0]; exact Bool.false_ne_true
   refine ⟨false, Ev.step (fun k => by simp only [spec_l8Body.l0]; exact rfl) (ifp hil (ifp hi0 ?_)), Ev.step (fun k => by simp only [impl_IsBody.l0]; exact rfl) (ifp hil (ifp hi0 (ifp hil ?_))), ⟨fun h => absurd h Bool.false_ne_true, fun h => absurd (h.1 i hi (Nat.le_refl _)).1.1 c0⟩⟩
   ·rw [rdC hi]
    exact somb (l1In_eq _ _ _) (ifn nf stop)
   ·rw [rdC hi]
    exact somb (within_eq _ _ _) (ifn nf (done rfl))
structure BodyV (l : List Cl) : Prop where
 n0 : 0 < l.length
 n1 : l.length ≤ 12
 each : ∀ x ∈ l, InR x
 sorted : ∀ j, (h : j < l.length) → 0 < j → bef l[j - 1] l[j] = true
 ground : ∃ x ∈ l, x.f1 = 0
 lw0 : ∀ h : 0 < l.length, lw l[0].f0 l = 0
 dn0 : ∀ h : 0 < l.length, dn l[0].f1 l = 0
/-- IsBody, in the program and in the reference alike, and what is known of a body. -/
theorem isBody_full (l : List Cl) (hn : l.length ≤ 1048576) : ∃ r, Ev (fun k => spec_l8Body.f k l) r ∧ Ev (fun k => impl_IsBody.f k l) r ∧ (r = true → BodyV l) ∧ (r = true ↔ ∃ h0 : 0 < l.length, l.length ≤ 12 ∧ BP l h0 0) := by
 unfold spec_l8Body.f impl_IsBody.f
 by_cases h : 1 ≤ (l.length : Int) ∧ (l.length : Int) ≤ 12
 ·have h0 : 0 < l.length := by omega
  obtain ⟨r, e1, e2, e3⟩ := body_rel l h0 (by omega) 0 (Nat.zero_le _) (fun j hj h => absurd h (by omega))
  refine ⟨r, somb (l1In_eq _ _ _) (ifp (decide_eq_true h) (ifp (by omega) ?_)), somb (within_eq _ _ _) (ifp (decide_eq_true h) e2), fun hr => ?_, ⟨fun hr => ⟨h0, by omega, e3.1 hr⟩, fun hr => e3.2 hr.2.2⟩⟩
  ·have r0 : rd_T37 l 0 = l[0] := rdC h0
   rw [r0]; exact e1
  ·obtain ⟨f1, f2, f3, f4⟩ := e3.1 hr
   refine ⟨h0, by omega, ?_, fun j hj hj0 => (f1 j hj (Nat.zero_le _)).2 hj0, ?_, fun _ => f2, fun _ => f3⟩
   ·intro x hx
    obtain ⟨j, hj, rfl⟩ := List.getElem_of_mem hx
    exact (f1 j hj (Nat.zero_le _)).1
   ·rcases dn_mem l l[0].f1 with h | ⟨x, hx, h⟩
    ·exact ⟨l[0], List.getElem_mem h0, by rw [← h, f3]⟩
    ·exact ⟨x, hx, by rw [h, f3]⟩
 ·have nf : ¬ (decide (1 ≤ (l.length : Int) ∧ (l.length : Int) ≤ 12) = true) := by rw [decide_eq_false h]; exact Bool.false_ne_true
  exact ⟨false, somb (l1In_eq _ _ _) (ifn nf (done rfl)), somb (within_eq _ _ _) (ifn nf (done rfl)), fun h => absurd h Bool.false_ne_true, ⟨fun h => absurd h Bool.false_ne_true, fun hr => absurd hr.2.1 (by obtain ⟨h0, h1, _⟩ := hr; omega)⟩⟩
theorem isBody_ev (l : List Cl) (hn : l.length ≤ 1048576) : ∃ r, Ev (fun k => spec_l8Body.f k l) r ∧ Ev (fun k => impl_IsBody.f k l) r ∧ (r = true → BodyV l) := by
 obtain ⟨r, h1, h2, h3, _⟩ := isBody_full l hn
 exact ⟨r, h1, h2, h3⟩
theorem bef_le {x y : Cl} (h : bef x y = true) : x.f0 ≤ y.f0 := by
 unfold bef at h
 split at h
 ·omega
 ·split at h
  ·omega
  ·cases h
theorem BodyV.mono {l : List Cl} (v : BodyV l) (i : Nat) : ∀ d, (h : i + d < l.length) → l[i].f0 ≤ l[i + d].f0 := by
 intro d
 induction d with
 | zero => intro h; exact Int.le_refl _
 | succ d ih =>
  intro h
  have h1 := ih (by omega)
  have h2 := bef_le (v.sorted (i + (d + 1)) h (by omega))
  have e : l[i + (d + 1) - 1]'(by omega) = l[i + d]'(by omega) := by congr 1
  rw [e] at h2
  omega

end Go.Proofs.YtckhmeadflafaaaGreat.PureBody
