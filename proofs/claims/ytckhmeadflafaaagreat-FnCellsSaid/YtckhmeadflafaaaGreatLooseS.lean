/- The places that can go, and those behind which a body stands, told outright, in the program and in the reference alike. No conditions beyond those of the lemmas' own hypotheses. -/
import Derived.Test.YtckhmeadflafaaaGreatLoose
import Derived.Test.YtckhmeadflafaaaGreatSide
import Derived.Test.YtckhmeadflafaaaGreatDelLoose
import Derived.Test.YtckhmeadflafaaaGreatXFcx4
import Derived.Test.YtckhmeadflafaaaGreatXFcx5
namespace Go.Proofs.YtckhmeadflafaaaGreat.PureLooseS
open Go.RowKit YtckhmeadflafaaaGreat.XFc YtckhmeadflafaaaGreat.Plain YtckhmeadflafaaaGreat.PureCells YtckhmeadflafaaaGreat.PureBody YtckhmeadflafaaaGreat.PurePut YtckhmeadflafaaaGreat.PureGround YtckhmeadflafaaaGreat.PureSide YtckhmeadflafaaaGreat.PureLoose YtckhmeadflafaaaGreatW.PrintWords YtckhmeadflafaaaGreatW.PrintLast YtckhmeadflafaaaGreatW.PrintMore
set_option linter.unusedVariables false
/-- Place i can go. -/
def Lz (l : List Cl) (i : Nat) : Prop := ∃ p, Ev (fun k => impl_without.f k l (i : Int)) p ∧ Ev (fun k => impl_IsBody.f k p) true
/-- Place i can go, and what is left stands. -/
def Sz (l : List Cl) (i : Nat) : Prop := ∃ p, Ev (fun k => impl_without.f k l (i : Int)) p ∧ Ev (fun k => impl_IsBody.f k p) true ∧ Ev (fun k => impl_bodySide.f k p) 0
def Mm (n i : Nat) (P : Nat → Prop) (r : List Int) : Prop := ∀ v : Int, v ∈ r ↔ ∃ j : Nat, i ≤ j ∧ j < n ∧ v = (j : Int) ∧ P j
theorem Mm.yes {n i : Nat} {P : Nat → Prop} {r : List Int} (hi : i < n) (p : P i) (h : Mm n (i + 1) P r) : Mm n i P ((i : Int) :: r) := by
 intro v
 rw [List.mem_cons, h v]
 constructor
 ·rintro (e | ⟨j, h1, h2, h3, h4⟩)
  ·exact ⟨i, Nat.le_refl _, hi, e, p⟩
  ·exact ⟨j, by omega, h2, h3, h4⟩
 ·rintro ⟨j, h1, h2, h3, h4⟩
  by_cases e : j = i
  ·subst e; exact Or.inl h3
  ·exact Or.inr ⟨j, by omega, h2, h3, h4⟩
theorem Mm.no {n i : Nat} {P : Nat → Prop} {r : List Int} (p : ¬ P i) (h : Mm n (i + 1) P r) : Mm n i P r := by
 intro v
 rw [h v]
 constructor
 ·rintro ⟨j, h1, h2, h3, h4⟩; exact ⟨j, by omega, h2, h3, h4⟩
 ·rintro ⟨j, h1, h2, h3, h4⟩
  by_cases e : j = i
  ·subst e; exact absurd h4 p
  ·exact ⟨j, by omega, h2, h3, h4⟩
noncomputable def dl (l : List Cl) (x : Int) : Bool := @decide (Ev (fun k => impl_StandLoose_1.f l k x) true) (Classical.propDecidable _)
theorem dl_eq {l : List Cl} {x : Int} {b : Bool} (h : Ev (fun k => impl_StandLoose_1.f l k x) b) : dl l x = b := by
 unfold dl
 cases b with
 | true => exact @decide_eq_true _ (Classical.propDecidable _) h
 | false => exact @decide_eq_false _ (Classical.propDecidable _) (fun k => Bool.false_ne_true (ev_fun h k))
theorem loops (l : List Cl) (v : BodyV l) : ∀ i : Nat, i ≤ l.length → ∀ acc accL accS : List Int, acc.length ≤ i → accL.length ≤ i → accS.length ≤ i → ∃ r rs : List Int, (Ev (fun k => spec_l8Loose.l0 k l false accL (i : Int)) (accL ++ r) ∧ Ev (fun k => spec_l8Loose.l0 k l true accS (i : Int)) (accS ++ rs) ∧ Ev (fun k => impl_LooseCells.l0 k l acc (l.length : Int) (i : Int)) (acc ++ r, true)) ∧ r.length + i ≤ l.length ∧ (∀ x ∈ r, Ev (fun k => impl_StandLoose_1.f l k x) (dl l x)) ∧ rs = r.filter (fun x => !dl l x) ∧ Mm l.length i (Lz l) r ∧ Mm l.length i (Sz l) rs := by
 have n1 := v.n1
 refine downTo l.length ?_ ?_
 ·intro acc accL accS ha hL hs
  refine ⟨[], [], ⟨Ev.step (fun k => by simp only [spec_l8Loose.l0]; exact rfl) (ifn (by omega) (done (List.append_nil _).symm)), Ev.step (fun k => by simp only [spec_l8Loose.l0]; exact rfl) (ifn (by omega) (done (List.append_nil _).symm)), Ev.step (fun k => by simp only [impl_LooseCells.l0]; exact rfl) (ifn (by omega) (done (by rw [List.append_nil])))⟩, by simp, fun x hx => absurd hx List.not_mem_nil, rfl, fun v => ?_, fun v => ?_⟩
  ·exact ⟨fun h => absurd h List.not_mem_nil, fun ⟨j, h1, h2, _⟩ => absurd h1 (by omega)⟩
  ·exact ⟨fun h => absurd h List.not_mem_nil, fun ⟨j, h1, h2, _⟩ => absurd h1 (by omega)⟩
 ·intro i hi ih acc accL accS ha hL hs
  have hal : acc.length < 17592186044416 := by omega
  have hLl : accL.length < 17592186044416 := by omega
  have hsl : accS.length < 17592186044416 := by omega
  have hil : (i : Int) < (l.length : Int) := by omega
  have hw : wrap64 ((i : Int) + 1) = ((i + 1 : Nat) : Int) := wrapS hi (by omega)
  obtain ⟨b, q, p, w1, w2, w3, w4, w5⟩ := without_ev v i hi
  cases b with
  | true =>
   obtain ⟨epq, wb⟩ := w4 rfl
   subst epq
   obtain ⟨tb, t1, t2, t3⟩ := isBody_ev p (by omega)
   have vp := t3 (ev_fun t1 wb)
   obtain ⟨s, s1, s2⟩ := side_ev p (BodyV.laid vp)
   have hc : Ev (fun k => impl_StandLoose_1.f l k (i : Int)) (s != 0) := by
    unfold impl_StandLoose_1.f
    exact Ev.bind w2 (Ev.bind s2 (done rfl))
   have hdl := dl_eq hc
   rw [← hdl] at hc
   have hmem : ∀ r : List Int, (∀ x ∈ r, Ev (fun k => impl_StandLoose_1.f l k x) (dl l x)) → ∀ x ∈ (i : Int) :: r, Ev (fun k => impl_StandLoose_1.f l k x) (dl l x) := by
    intro r hr x hx
    rcases List.mem_cons.1 hx with e | hx
    ·rw [e]; exact hc
    ·exact hr x hx
   have hL1 : ∀ r, Ev (fun k => spec_l8Loose.l0 k l false (accL ++ [(i : Int)]) ((i + 1 : Nat) : Int)) r → Ev (fun k => spec_l8Loose.l0 k l false accL (i : Int)) r := by
    intro r e
    rw [← hw] at e
    refine Ev.step (fun k => by simp only [spec_l8Loose.l0]; exact rfl) (ifp hil ?_)
    exact Ev.bind w1 (ifp (Eq.refl true) (ifn Bool.false_ne_true (ifp hLl e)))
   have hz : Lz l i := ⟨p, w2, w3⟩
   by_cases hs0 : s = 0
   ·obtain ⟨r, rs, ⟨e0, e1, e2⟩, e3, e4, e5, e6, e7⟩ := ih (acc ++ [(i : Int)]) (accL ++ [(i : Int)]) (accS ++ [(i : Int)]) (by simp; omega) (by simp; omega) (by simp; omega)
    rw [← hw] at e1 e2
    rw [List.append_assoc] at e0 e1 e2
    rw [hs0] at s2
    refine ⟨(i : Int) :: r, (i : Int) :: rs, ⟨hL1 _ e0, (by
     refine Ev.step (fun k => by simp only [spec_l8Loose.l0]; exact rfl) (ifp hil ?_)
     refine Ev.bind w1 ?_
     refine ifp (Eq.refl true) ?_
     refine ifp trivial ?_
     refine Ev.bind s1 ?_
     exact ifp hs0 (ifp hsl e1)), Ev.step (fun k => by simp only [impl_LooseCells.l0]; exact rfl) (ifp hil (Ev.bind w2 (Ev.bind w3 (ifp (Eq.refl true) (ifp hal e2)))))⟩, by rw [List.length_cons]; omega, hmem r e4, ?_, Mm.yes hi hz e6, Mm.yes hi ⟨p, w2, w3, s2⟩ e7⟩
    rw [List.filter_cons, if_pos (by rw [hdl, hs0]; rfl), e5]
   ·obtain ⟨r, rs, ⟨e0, e1, e2⟩, e3, e4, e5, e6, e7⟩ := ih (acc ++ [(i : Int)]) (accL ++ [(i : Int)]) accS (by simp; omega) (by simp; omega) (by omega)
    rw [← hw] at e1 e2
    rw [List.append_assoc] at e0 e2
    refine ⟨(i : Int) :: r, rs, ⟨hL1 _ e0, (by
     refine Ev.step (fun k => by simp only [spec_l8Loose.l0]; exact rfl) (ifp hil ?_)
     refine Ev.bind w1 ?_
     refine ifp (Eq.refl true) ?_
     refine ifp trivial ?_
     refine Ev.bind s1 ?_
     exact ifn hs0 e1), Ev.step (fun k => by simp only [impl_LooseCells.l0]; exact rfl) (ifp hil (Ev.bind w2 (Ev.bind w3 (ifp (Eq.refl true) (ifp hal e2)))))⟩, by rw [List.length_cons]; omega, hmem r e4, ?_, Mm.yes hi hz e6, Mm.no (fun ⟨p2, u1, u2, u3⟩ => ?_) e7⟩
    ·rw [List.filter_cons, if_neg (by rw [hdl, bne_iff_ne.2 hs0]; simp), e5]
    ·have e := ev_fun u1 w2
     subst e
     exact hs0 (ev_fun s2 u3)
  | false =>
   obtain ⟨r, rs, ⟨e0, e1, e2⟩, e3, e4, e5, e6, e7⟩ := ih acc accL accS (by omega) (by omega) (by omega)
   rw [← hw] at e0 e1 e2
   have hno : ¬ Lz l i := by
    rintro ⟨p2, u1, u2⟩
    have e := ev_fun u1 w2
    subst e
    exact Bool.false_ne_true (ev_fun w3 u2)
   exact ⟨r, rs, ⟨Ev.step (fun k => by simp only [spec_l8Loose.l0]; exact rfl) (ifp hil (Ev.bind w1 (ifn Bool.false_ne_true e0))), Ev.step (fun k => by simp only [spec_l8Loose.l0]; exact rfl) (ifp hil (Ev.bind w1 (ifn Bool.false_ne_true e1))), Ev.step (fun k => by simp only [impl_LooseCells.l0]; exact rfl) (ifp hil (Ev.bind w2 (Ev.bind w3 (ifn Bool.false_ne_true e2))))⟩, by omega, e4, e5, Mm.no hno e6, Mm.no (fun ⟨p2, u1, u2, _⟩ => hno ⟨p2, u1, u2⟩) e7⟩
/-- What both lists hold. -/
theorem loose_all (l : List Cl) (hn : l.length ≤ 1048576) : ∃ (b : Bool) (r rs : List Int), (Ev (fun k => impl_IsBody.f k l) b ∧ Ev (fun k => spec_LooseCells.f k l) (r, b) ∧ Ev (fun k => impl_LooseCells.f k l) (r, b) ∧ Ev (fun k => spec_StandLoose.f k l) (rs, b) ∧ Ev (fun k => impl_StandLoose.f k l) (rs, b)) ∧ r.length ≤ 12 ∧ rs.length ≤ 12 ∧ (b = true → Mm l.length 0 (Lz l) r ∧ Mm l.length 0 (Sz l) rs) := by
 obtain ⟨b, e1, e2, hv⟩ := isBody_ev l hn
 unfold spec_StandLoose.f impl_StandLoose.f spec_LooseCells.f impl_LooseCells.f
 cases b with
 | false => exact ⟨false, [], [], ⟨e2, Ev.bind e1 (ifn Bool.false_ne_true (done rfl)), Ev.bind e2 (ifn Bool.false_ne_true (done rfl)), Ev.bind e1 (ifn Bool.false_ne_true (done rfl)), Ev.bind (Ev.bind e2 (ifn Bool.false_ne_true (done rfl))) (ifn Bool.false_ne_true (done rfl))⟩, by simp, by simp, fun h => absurd h Bool.false_ne_true⟩
 | true =>
  have v := hv rfl
  have n1 := v.n1
  obtain ⟨r, rs, ⟨f0, f1, f2⟩, f3, f4, f5, f6, f7⟩ := loops l v 0 (Nat.zero_le _) [] [] [] (by simp) (by simp) (by simp)
  rw [List.nil_append] at f0 f1 f2
  have hd := PureDelLoose.del_ev l r (by omega) (dl l) f4
  rw [← f5] at hd
  have hl : rs.length ≤ r.length := by rw [f5]; exact List.length_filter_le _ _
  exact ⟨true, r, rs, ⟨e2, Ev.bind e1 (ifp (Eq.refl true) (Ev.bind (by unfold spec_l8Loose.f; exact f0) (done rfl))), Ev.bind e2 (ifp (Eq.refl true) f2), Ev.bind e1 (ifp (Eq.refl true) (Ev.bind (by unfold spec_l8Loose.f; exact f1) (done rfl))), Ev.bind (Ev.bind e2 (ifp (Eq.refl true) f2)) (ifp (Eq.refl true) (Ev.bind hd (done rfl)))⟩, by omega, by omega, fun _ => ⟨f6, f7⟩⟩
end Go.Proofs.YtckhmeadflafaaaGreat.PureLooseS
