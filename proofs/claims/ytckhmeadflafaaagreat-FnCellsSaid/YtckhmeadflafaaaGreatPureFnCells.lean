/- The plain law of FnCells: loose cells, cells on which a body stands, and the count of bodies. No conditions. -/
import Derived.Test.YtckhmeadflafaaaGreatLooseS
import Derived.Test.YtckhmeadflafaaaGreatStandS
import Derived.Test.YtckhmeadflafaaaGreatPutW
import Derived.Test.YtckhmeadflafaaaGreatCountB
import Derived.Test.YtckhmeadflafaaaGreatTwo
import Derived.Test.YtckhmeadflafaaaGreatRlaws
import Derived.Test.YtckhmeadflafaaaGreatDrawBody
import Derived.Test.YtckhmeadflafaaaGreatXFcx9
import Derived.Test.YtckhmeadflafaaaGreatXFcx8
import Derived.Test.YtckhmeadflafaaaGreatXFcx1
import Derived.Test.YtckhmeadflafaaaGreatXFcx7
import Derived.Test.YtckhmeadflafaaaGreatXFcx2
import Derived.Test.YtckhmeadflafaaaGreatXFcx5
namespace Go.Proofs.YtckhmeadflafaaaGreat.Pure
open Go.RowKit YtckhmeadflafaaaGreat.XFc YtckhmeadflafaaaGreat.Plain YtckhmeadflafaaaGreat.PureCells YtckhmeadflafaaaGreat.PureBody YtckhmeadflafaaaGreat.PureGround YtckhmeadflafaaaGreat.PureSide YtckhmeadflafaaaGreat.PurePut YtckhmeadflafaaaGreat.PureHang YtckhmeadflafaaaGreat.PureLoose YtckhmeadflafaaaGreat.PureReach YtckhmeadflafaaaGreat.PureShape YtckhmeadflafaaaGreat.PureHas YtckhmeadflafaaaGreat.PureEdge YtckhmeadflafaaaGreat.PureBesides YtckhmeadflafaaaGreat.PureLooseS YtckhmeadflafaaaGreat.PurePutW YtckhmeadflafaaaGreat.PureRlaws YtckhmeadflafaaaGreat.PureDraw YtckhmeadflafaaaGreat.PureDrawBody YtckhmeadflafaaaGreatW.PrintWords YtckhmeadflafaaaGreatW.PrintLast YtckhmeadflafaaaGreatW.PrintMore
set_option linter.unusedVariables false
set_option linter.unusedSimpArgs false
theorem mmAt {n : Nat} {P : Nat → Prop} {r : List Int} (h : Mm n 0 P r) {i : Nat} (hi : i < n) : (i : Int) ∈ r ↔ P i := by
 rw [h (i : Int)]
 constructor
 ·rintro ⟨j, _, _, h3, h4⟩
  have e : i = j := by omega
  subst e; exact h4
 ·intro p; exact ⟨i, Nat.zero_le _, hi, rfl, p⟩
theorem near_of {x : Cl} (h : InR x) : Near x := by
 obtain ⟨⟨h1, h2⟩, h3, h4⟩ := h
 exact ⟨⟨by omega, by omega⟩, by omega, by omega⟩
theorem erase_ev {l : List Cl} (b : IsB l) (i : Nat) (hi : i < l.length) (h0 : 0 < (l.eraseIdx i).length) : Ev (fun k => impl_without.f k l (i : Int)) (pd (l.eraseIdx i) h0) := by
 have n1 := b.v.n1
 have hel : (l.eraseIdx i).length = l.length - 1 := List.length_eraseIdx_of_lt hi
 have hp := put_ev (l.eraseIdx i) h0 (by omega) (fun x hx => (b.v.each x ((List.eraseIdx_sublist l i).subset hx)).small)
 unfold impl_without.f
 refine ifp ⟨by omega, by omega, by omega⟩ ?_
 rw [Int.toNat_natCast]; exact hp
theorem body_nil : Ev (fun k => impl_IsBody.f k []) false := by
 unfold impl_IsBody.f
 exact somb (within_eq _ _ _) (ifn (by simp) (done rfl))
theorem side_nil : Ev (fun k => impl_BodySide.f k []) (0, false) := by
 unfold impl_BodySide.f
 exact Ev.bind body_nil (ifn Bool.false_ne_true (done rfl))
/-- What is left without a cell. -/
theorem rest_ev {l : List Cl} (b : IsB l) (i : Nat) (hi : i < l.length) : ∃ (t : Bool) (p : List Cl) (s : Int), Ev (fun k => impl_PutDown.f k (l.eraseIdx i)) (p, t) ∧ Ev (fun k => impl_BodySide.f k p) (s, t) ∧ (t = true ↔ Lz l i) ∧ ((t = true ∧ s = 0) ↔ Sz l i) := by
 have n1 := b.v.n1
 have hel : (l.eraseIdx i).length = l.length - 1 := List.length_eraseIdx_of_lt hi
 obtain ⟨t, q, p, w1, w2, w3, w4, w5⟩ := without_ev b.v i hi
 by_cases h1 : l.length = 1
 ·have hp : p = [] := List.eq_nil_of_length_eq_zero (by omega)
  have he : l.eraseIdx i = [] := List.eq_nil_of_length_eq_zero (by omega)
  subst hp
  have hn : ¬ Lz l i := by
   rintro ⟨p, u1, u2⟩
   have e := ev_fun u1 w2
   subst e
   exact Bool.false_ne_true (ev_fun body_nil u2)
  rw [he]
  exact ⟨false, [], 0, putdown_nil, side_nil, ⟨fun h => absurd h Bool.false_ne_true, fun h => absurd h hn⟩, ⟨fun h => absurd h.1 Bool.false_ne_true, fun ⟨p, u1, u2, _⟩ => absurd ⟨p, u1, u2⟩ hn⟩⟩
 ·have h0 : 0 < (l.eraseIdx i).length := by omega
  have e := ev_fun w2 (erase_ev b i hi h0)
  subst e
  have hpd := putdown_ev h0 (by omega) (fun x hx => near_of (b.v.each x ((List.eraseIdx_sublist l i).subset hx))) w3
  have hz : t = true ↔ Lz l i := by
   constructor
   ·intro h; rw [h] at w3; exact ⟨_, w2, w3⟩
   ·rintro ⟨p, u1, u2⟩
    have e := ev_fun u1 w2
    subst e
    exact ev_fun w3 u2
  cases t with
  | false => exact ⟨false, [], 0, hpd, side_nil, hz, ⟨fun h => absurd h.1 Bool.false_ne_true, fun ⟨p, u1, u2, _⟩ => absurd (hz.2 ⟨p, u1, u2⟩) Bool.false_ne_true⟩⟩
  | true =>
   obtain ⟨tb, t1, t2, t3⟩ := isBody_ev (pd (l.eraseIdx i) h0) (by rw [pd_len]; omega)
   have vp := t3 (ev_fun t2 w3)
   obtain ⟨s, s1, s2⟩ := side_ev _ (BodyV.laid vp)
   refine ⟨true, _, s, hpd, ?_, hz, ⟨fun h => ?_, fun ⟨p, u1, u2, u3⟩ => ⟨rfl, ?_⟩⟩⟩
   ·unfold impl_BodySide.f
    exact Ev.bind w3 (ifp (Eq.refl true) (Ev.bind s2 (done rfl)))
   ·rw [h.2] at s2; exact ⟨_, w2, w3, s2⟩
   ·have e := ev_fun u1 w2
    subst e
    exact ev_fun s2 u3
theorem loose_of {l : List Cl} (b : IsB l) (h2 : 2 ≤ l.length) (i : Nat) (hi : i < l.length) (h : Hgs (l.eraseIdx i)) : Lz l i := by
 have n1 := b.v.n1
 have hel : (l.eraseIdx i).length = l.length - 1 := List.length_eraseIdx_of_lt hi
 have h0 : 0 < (l.eraseIdx i).length := by omega
 have hb := pd_isB h0 (by omega) (fun x hx => (b.v.each x ((List.eraseIdx_sublist l i).subset hx)).small) (b.nd.sublist (List.eraseIdx_sublist l i)) h
 exact ⟨_, erase_ev b i hi h0, hb.ev.1⟩
theorem two_long {r : List Int} {a c : Int} (ha : a ∈ r) (hc : c ∈ r) (h : a ≠ c) : 2 ≤ r.length := by
 match r, ha, hc with
 | [x], ha, hc => exact absurd ((List.mem_singleton.1 ha).trans (List.mem_singleton.1 hc).symm) h
 | x :: y :: r, _, _ => simp
theorem l1_ev {l : List Cl} (b : IsB l) {r rs : List Int} (hr : r.length ≤ 12) (hrs : rs.length ≤ 12) (m1 : Mm l.length 0 (Lz l) r) (m2 : Mm l.length 0 (Sz l) rs) : ∀ i, i ≤ l.length → Ev (fun k => laws_FnCells.l1 k l r rs (i : Int)) true := by
 have n1 := b.v.n1
 refine downTo l.length ?_ ?_
 ·exact Ev.step (fun k => by simp only [laws_FnCells.l1]; exact rfl) (ifn (by omega) (done rfl))
 ·intro i hi ih
  have hw : wrap64 ((i : Int) + 1) = ((i + 1 : Nat) : Int) := wrapS hi (by omega)
  obtain ⟨t, p, s, e1, e2, e3, e4⟩ := rest_ev b i hi
  obtain ⟨f1, f2, f3⟩ := has_dec r (by omega) (i : Int)
  obtain ⟨g1, g2, g3⟩ := has_dec rs (by omega) (i : Int)
  rw [mmAt m1 hi] at f3
  rw [mmAt m2 hi] at g3
  have hf : f1 = t := Bool.eq_iff_iff.2 (f3.trans e3.symm)
  have hg : g1 = true ↔ t = true ∧ s = 0 := g3.trans e4.symm
  refine Ev.step (fun k => by simp only [laws_FnCells.l1]; exact rfl) (ifp (by omega) (somb rfl (ifp (by omega) (ifp (by omega) (somb rfl (ifp (by simp [List.length_take]; omega) (somb rfl ?_)))))))
  rw [hw]
  refine ifp (by omega) (ifp (by omega) (somb rfl (ifp (by simp [List.length_take, List.length_drop]; omega) ?_)))
  rw [Int.toNat_natCast, Int.toNat_natCast, List.nil_append, ← List.eraseIdx_eq_take_drop_succ]
  refine Ev.bind e1 (Ev.bind f2 (ifn (by rw [hf]; simp) (Ev.bind e2 (ifn (by simp) (Ev.bind g2 ?_)))))
  cases t with
  | true =>
   refine ifp (Eq.refl true) (ifn ?_ ih)
   have : g1 = (s == 0) := Bool.eq_iff_iff.2 (by rw [hg]; simp)
   rw [this]; simp
  | false =>
   refine ifn Bool.false_ne_true (ifn ?_ ih)
   have : g1 = false := Bool.eq_false_iff.2 (fun h => Bool.false_ne_true (hg.1 h).1)
   rw [this]; simp
theorem j1_ev {l : List Cl} {ok : Bool} {r rs : List Int} (hb : ok = true → IsB l) (hr : r.length ≤ 12) (hrs : rs.length ≤ 12) (hm : ok = true → Mm l.length 0 (Lz l) r ∧ Mm l.length 0 (Sz l) rs) : Ev (fun k => laws_FnCells.j1 k l r ok rs) true := by
 refine Ev.step (fun k => by simp only [laws_FnCells.j1]; exact rfl) ?_
 cases ok with
 | false => exact ifn Bool.false_ne_true (done rfl)
 | true =>
  have b := hb rfl
  obtain ⟨m1, m2⟩ := hm rfl
  have last : Ev (fun k => laws_FnCells.j2 k l r rs false) true := Ev.step (fun k => by simp only [laws_FnCells.j2]; exact rfl) (ifn Bool.false_ne_true (l1_ev b hr hrs m1 m2 0 (Nat.zero_le _)))
  refine ifp (Eq.refl true) (ifc (fun h => ?_) fun _ => last)
  have h2 : 2 ≤ l.length := by omega
  obtain ⟨i, j, hi, hj, hne, ki, kj⟩ := PureTwo.two b.h b.nd h2
  have hlong := two_long ((mmAt m1 hi).2 (loose_of b h2 i hi ki)) ((mmAt m1 hj).2 (loose_of b h2 j hj kj)) (by omega)
  rw [decide_eq_false (by omega)]; exact last
theorem l0_ev {l c : List Cl} {ok : Bool} {r rs : List Int} {X : List Cl} (last : Ev (fun k => laws_FnCells.j1 k l r ok rs) true) (b : IsB c) (hn : c.length ≤ 11) (hX : X.length ≤ 1048576) (hx : ∀ x ∈ X, x ∈ edge c ∧ Ev (fun k => impl_bodySide.f k (pd (c ++ [x]) (one_pos c x))) 0) : ∀ i, i ≤ X.length → Ev (fun k => laws_FnCells.l0 k l r ok rs c X (i : Int)) true := by
 refine downTo X.length ?_ ?_
 ·exact Ev.step (fun k => by simp only [laws_FnCells.l0]; exact rfl) (ifn (by omega) last)
 ·intro i hi ih
  obtain ⟨hx1, hx2⟩ := hx X[i] (List.getElem_mem hi)
  obtain ⟨h1, h2, _⟩ := (edge_mem c X[i]).1 hx1
  have hb := (one_body b hn hx1).ev.1
  have hnr : ∀ x ∈ c ++ [X[i]], Near x := by
   intro x hm
   rcases List.mem_append.1 hm with h | h
   ·exact near_of (b.v.each x h)
   ·rw [List.mem_singleton.1 h]; exact ⟨⟨by omega, by omega⟩, by omega, by omega⟩
  have hpd := putdown_ev (one_pos c X[i]) (by rw [List.length_append, List.length_singleton]; omega) hnr hb
  rw [if_pos rfl] at hpd
  have hs : Ev (fun k => impl_BodySide.f k (pd (c ++ [X[i]]) (one_pos c X[i]))) (0, true) := by
   unfold impl_BodySide.f
   exact Ev.bind hb (ifp (Eq.refl true) (Ev.bind hx2 (done rfl)))
  refine Ev.step (fun k => by simp only [laws_FnCells.l0]; exact rfl) (ifp (by omega) (somb rfl (ifp (by simp; omega) (somb rfl (ifp (by omega) (somb rfl (ifp (by simp; omega) ?_)))))))
  rw [rdC hi, List.nil_append]
  refine Ev.bind hpd (Ev.bind hs (ifp (Eq.refl true) (ifp (Eq.refl true) (ifp rfl (ifp ?_ ?_)))))
  ·show ((pd (c ++ [X[i]]) (one_pos c X[i])).length : Int) = wrap64 ((c.length : Int) + 1)
   rw [pd_len, List.length_append, List.length_singleton, w64 (by omega) (by omega)]; omega
  ·rw [wrapS hi (by omega)]; exact ih
theorem FnCells : laws_FnCells.Pure := by
 intro L _ _ hb
 have hL := bytes_of hb
 refine Ev.rounds ?_
 have hbig : laws_rBig.f L = some (decide ((L.length : Int) > 65536)) := rfl
 obtain ⟨l, d0, hl⟩ := isBody_draw hL
 have d1 : Ev (fun k => spec_DrawLooseCells.f k L) l := by unfold spec_DrawLooseCells.f; exact Ev.bind d0 (done rfl)
 have d2 : Ev (fun k => spec_DrawCellsToStand.f k L) l := by unfold spec_DrawCellsToStand.f; exact Ev.bind d0 (done rfl)
 obtain ⟨n, a1, s1, d3, _⟩ := among_ev hL 0 0 (by omega) (by omega) [3, 4, 2, 5, 1, 6, 0, 7, -1] (by decide) (by decide)
 have d4 : spec_DrawCountBodies.f L = some n := by unfold spec_DrawCountBodies.f; rw [d3]; rfl
 obtain ⟨ok, r, rs, ⟨b1, b2, b3, b4, b5⟩, hr, hrs, hm⟩ := loose_all l (by omega)
 obtain ⟨⟨more, two⟩, c1, c2, c3, c4⟩ := PureStandS.both l (by omega)
 obtain ⟨⟨all, some_, three⟩, n1, n2, n3⟩ := PureCountB.both n
 have i1 := ints_refl r (by omega)
 have i2 := ints_refl rs (by omega)
 have i3 := cells_refl more c3
 have hok : ok = true → IsB l := fun h => isB_of (by omega) (by rw [h] at b1; exact b1)
 have last := j1_ev (ok := ok) hok hr hrs hm
 unfold laws_FnCells.f
 refine somb hbig (ifc (fun _ => done rfl) fun _ => ?_)
 refine Ev.bind d1 (Ev.bind b3 (Ev.bind b2 (ifn (by simp) (Ev.bind b1 (ifn (by simp) (Ev.bind i1 (ifp (Eq.refl true) ?_)))))))
 refine Ev.bind b5 (Ev.bind b4 (ifn (by simp) (ifn (by simp) (Ev.bind i2 (ifp (Eq.refl true) ?_)))))
 refine Ev.bind d2 (Ev.bind c2 (Ev.bind c1 (ifn (by simp) (Ev.bind i3 (ifp (Eq.refl true) ?_)))))
 refine somb d4 (Ev.bind n2 (Ev.bind n1 (ifp (Eq.refl all) (ifp (Eq.refl some_) (ifn (by simp) (ifn (by show ¬ some_ > all; have : some_ ≤ all := n3; omega) ?_))))))
 show Ev (fun k => if two = true then laws_FnCells.l0 k l r ok rs l more 0 else laws_FnCells.j1 k l r ok rs) true
 cases h : two with
 | false => exact ifn Bool.false_ne_true last
 | true =>
  obtain ⟨bc, hn, hx⟩ := c4 h
  exact ifp (Eq.refl true) (l0_ev last bc hn c3 hx 0 (Nat.zero_le _))
end Go.Proofs.YtckhmeadflafaaaGreat.Pure
