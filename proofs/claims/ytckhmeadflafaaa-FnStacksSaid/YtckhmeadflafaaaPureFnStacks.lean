/- The plain law of FnStacks: a stack is a body with as many cells as both have, and a body holds on a flat one below all of it exactly if it stands. No conditions. -/
import Derived.Test.YtckhmeadflafaaaDrawBody
import Derived.Test.YtckhmeadflafaaaFlat
import Derived.Test.YtckhmeadflafaaaXFsx23
import Derived.Test.YtckhmeadflafaaaXFsx2
import Derived.Test.YtckhmeadflafaaaXFsx21
import Derived.Test.YtckhmeadflafaaaXFsx22
namespace Go.Proofs.Ytckhmeadflafaaa.Pure
open Go.RowKit Go.Proofs.Ytckhmeadflafaaa.XFs Go.Proofs.Ytckhmeadflafaaa.Plain Go.Proofs.Ytckhmeadflafaaa.PureCells Go.Proofs.Ytckhmeadflafaaa.PureBody Go.Proofs.Ytckhmeadflafaaa.PurePut Go.Proofs.Ytckhmeadflafaaa.PureGround Go.Proofs.Ytckhmeadflafaaa.PureStackBoth Go.Proofs.Ytckhmeadflafaaa.PureSide Go.Proofs.Ytckhmeadflafaaa.PureFlat Go.Proofs.Ytckhmeadflafaaa.PureDraw Go.Proofs.Ytckhmeadflafaaa.PureDrawBody Go.Proofs.YtckhmeadflafaaaW.PrintWords Go.Proofs.YtckhmeadflafaaaW.PrintLast Go.Proofs.YtckhmeadflafaaaW.PrintMore
set_option linter.unusedVariables false
theorem rCells_ev (l : List Cl) (hn : l.length ≤ 1000) : Ev (fun k => laws_rCells.f k l l) true := by
  have key : ∀ i, i ≤ l.length → Ev (fun k => laws_rCells.l0 k l l (i : Int)) true := by
    refine downTo l.length ?_ ?_
    · exact Ev.step (fun k => by simp only [laws_rCells.l0]; exact rfl) (ifn (by omega) (done rfl))
    · intro i hi ih
      refine Ev.step (fun k => by simp only [laws_rCells.l0]; exact rfl) (ifp (by omega) (ifp (by omega) (ifp (by omega) (ifn (by simp) ?_))))
      rw [wrapS hi (by omega)]; exact ih
  unfold laws_rCells.f
  exact ifp rfl (key 0 (Nat.zero_le _))
theorem l1_ev {c : List Cl} (v : BodyV c) (hb : Ev (fun k => impl_IsBody.f k c) true) (w : Nat) (hw : ∀ x ∈ c, x.f0 + 1 ≤ (w : Int)) (h12 : w + c.length ≤ 12) (s : Int) (hs : Ev (fun k => impl_bodySide.f k c) s) : ∀ i, i ≤ w → Ev (fun k => laws_FnStacks.l1 k c s (w : Int) (flatL i) (i : Int)) true := by
  refine downTo w ?_ ?_
  · obtain ⟨r, e1, e2, e3⟩ := flat_ev v hb w hw h12 s hs
    have nlt : ¬ (w : Int) < (w : Int) := Int.lt_irrefl _
    refine Ev.step (fun k => by simp only [laws_FnStacks.l1]; exact rfl) (ifn nlt (Ev.bind e1 ?_))
    refine ifp e2 (done ?_)
    rw [e3]; exact beq_self_eq_true _
  · intro i hi ih
    have hlt : (i : Int) < (w : Int) := by omega
    have hal : (flatL i).length < 8796093022208 := by rw [flat_len]; omega
    refine Ev.step (fun k => by simp only [laws_FnStacks.l1]; exact rfl) (ifp hlt (ifp hal ?_))
    rw [wrapS hi (by omega)]
    have e : flatL (i + 1) = flatL i ++ [(⟨(i : Int), 0⟩ : Cl)] := by unfold flatL; rw [List.range_succ, List.map_append]; rfl
    rw [e] at ih
    exact ih
theorem l0_ev {c : List Cl} (v : BodyV c) (hb : Ev (fun k => impl_IsBody.f k c) true) (s : Int) (hs : Ev (fun k => impl_bodySide.f k c) s) : ∀ i, i ≤ c.length → ∀ w : Int, 0 ≤ w → w ≤ 13 → (∀ j, (h : j < c.length) → j < i → c[j].f0 + 1 ≤ w) → Ev (fun k => laws_FnStacks.l0 k c s w (i : Int)) true := by
  have n1 := v.n1
  refine downTo c.length ?_ ?_
  · intro w h0 h13 hw
    have nlt : ¬ (c.length : Int) < (c.length : Int) := Int.lt_irrefl _
    have ww : wrap64 (w + (c.length : Int)) = w + (c.length : Int) := w64 (by omega) (by omega)
    have hall : ∀ x ∈ c, x.f0 + 1 ≤ w := by
      intro x hx
      obtain ⟨j, hj, rfl⟩ := List.getElem_of_mem hx
      exact hw j hj hj
    refine Ev.step (fun k => by simp only [laws_FnStacks.l0]; exact rfl) (ifn nlt ?_)
    rw [ww]
    obtain ⟨n, rfl⟩ := Int.eq_ofNat_of_zero_le h0
    refine ifc (fun _ => done rfl) fun hc => ?_
    exact l1_ev v hb n hall (by omega) s hs 0 (Nat.zero_le _)
  · intro i hi ih w h0 h13 hw
    have hil : (i : Int) < (c.length : Int) := by omega
    have hi0 : 0 ≤ (i : Int) := by omega
    obtain ⟨⟨c1, c2⟩, c3, c4⟩ := v.each c[i] (List.getElem_mem hi)
    have hA : c[i].f0 + 1 > w → Ev (fun k => laws_FnStacks.l0 k c s (c[i].f0 + 1) ((i + 1 : Nat) : Int)) true := fun hgt => ih (c[i].f0 + 1) (by omega) (by omega) (fun j hj hji => by
      by_cases e : j = i
      · subst e; exact Int.le_refl _
      · have := hw j hj (by omega); omega)
    have hB : ¬ c[i].f0 + 1 > w → Ev (fun k => laws_FnStacks.l0 k c s w ((i + 1 : Nat) : Int)) true := fun hgt => ih w h0 h13 (fun j hj hji => by
      by_cases e : j = i
      · subst e; omega
      · exact hw j hj (by omega))
    have w1 : wrap64 (c[i].f0 + 1) = c[i].f0 + 1 := w64 (by omega) (by omega)
    have hw' : wrap64 ((i : Int) + 1) = ((i + 1 : Nat) : Int) := wrapS hi (by omega)
    refine Ev.step (fun k => by simp only [laws_FnStacks.l0]; exact rfl) (ifp hil (ifp hi0 ?_))
    rw [rdC hi, w1, hw']
    exact ifc hA hB
theorem j0_ev {L : List Int} (hL : Bytes L) : Ev (fun k => laws_FnStacks.j0 k L false) true := by
  obtain ⟨c, e0, hc⟩ := isBody_draw hL
  obtain ⟨b, b1, b2, b3⟩ := isBody_ev c (by omega)
  refine Ev.step (fun k => by simp only [laws_FnStacks.j0]; exact rfl) (ifn Bool.false_ne_true (Ev.bind e0 ?_))
  cases b with
  | false =>
    have i1 : Ev (fun k => impl_BodySide.f k c) (0, false) := by unfold impl_BodySide.f; exact Ev.bind b2 (ifn Bool.false_ne_true (done rfl))
    have i2 : Ev (fun k => spec_BodySide.f k c) (0, false) := by unfold spec_BodySide.f; exact Ev.bind b1 (ifn Bool.false_ne_true (done rfl))
    refine Ev.bind i1 (Ev.bind i2 ?_)
    refine ifp rfl (ifn (by simp) ?_)
    exact ifn Bool.false_ne_true (done rfl)
  | true =>
    have v := b3 rfl
    obtain ⟨s, s1, s2⟩ := side_ev c (BodyV.laid v)
    have i1 : Ev (fun k => impl_BodySide.f k c) (s, true) := by
      unfold impl_BodySide.f
      refine Ev.bind b2 (ifp (Eq.refl true) (Ev.bind s2 ?_))
      exact done rfl
    have i2 : Ev (fun k => spec_BodySide.f k c) (s, true) := by
      unfold spec_BodySide.f
      refine Ev.bind b1 (ifp (Eq.refl true) (Ev.bind s1 ?_))
      exact done rfl
    refine Ev.bind i1 (Ev.bind i2 ?_)
    refine ifp rfl (ifn (by simp) ?_)
    refine ifp (Eq.refl true) ?_
    exact l0_ev v b2 s s2 0 (Nat.zero_le _) 0 (Int.le_refl _) (by omega) (fun j _ h => absurd h (by omega))
theorem FnStacks : laws_FnStacks.Pure := by
  intro l _ hl hb
  have hL := bytes_of hb
  refine Ev.rounds ?_
  unfold laws_FnStacks.f
  have hbig : laws_rBig.f l = some (decide ((l.length : Int) > 65536)) := rfl
  refine somb hbig (ifc (fun _ => done rfl) fun _ => ?_)
  obtain ⟨p, q, d, e0, hp, hq⟩ := stackBodies_draw hL
  obtain ⟨r, e1, e2, e3, e4⟩ := both p q d (by omega) (by omega)
  have hr := rCells_ev r.1 (by omega)
  refine Ev.bind e0 (Ev.bind e2 (Ev.bind e1 ?_))
  refine ifn (by simp) (ifn (by simp) (Ev.bind hr (ifp (Eq.refl true) ?_)))
  have hj := j0_ev hL
  refine ifc (fun h => ?_) fun _ => hj
  obtain ⟨h1, h2⟩ := e4 h
  have hw : wrap64 ((p.length : Int) + (q.length : Int)) = (p.length : Int) + (q.length : Int) := w64 (by omega) (by omega)
  refine ifp ?_ (Ev.bind h2 hj)
  show (r.1.length : Int) = wrap64 ((p.length : Int) + (q.length : Int))
  rw [hw, h1]; omega
end Go.Proofs.Ytckhmeadflafaaa.Pure
