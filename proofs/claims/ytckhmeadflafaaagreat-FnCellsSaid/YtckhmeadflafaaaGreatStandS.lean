/- The cells on which a body stands, told outright, in the program and in the reference alike. No conditions beyond those of the lemmas' own hypotheses. -/
import Derived.Test.YtckhmeadflafaaaGreatBesides
import Derived.Test.YtckhmeadflafaaaGreatSide
import Derived.Test.YtckhmeadflafaaaGreatDelStand
import Derived.Test.YtckhmeadflafaaaGreatXFcx6
import Derived.Test.YtckhmeadflafaaaGreatXFcx7
namespace Go.Proofs.YtckhmeadflafaaaGreat.PureStandS
open Go.RowKit YtckhmeadflafaaaGreat.XFc YtckhmeadflafaaaGreat.Plain YtckhmeadflafaaaGreat.PureCells YtckhmeadflafaaaGreat.PureBody YtckhmeadflafaaaGreat.PurePut YtckhmeadflafaaaGreat.PureGround YtckhmeadflafaaaGreat.PureSide YtckhmeadflafaaaGreat.PureShape YtckhmeadflafaaaGreat.PureEdge YtckhmeadflafaaaGreat.PureBesides YtckhmeadflafaaaGreatW.PrintWords YtckhmeadflafaaaGreatW.PrintLast YtckhmeadflafaaaGreatW.PrintMore
set_option linter.unusedVariables false
/-- Whether the closure says that a cell goes out. -/
noncomputable def dl (l : List Cl) (x : Cl) : Bool := @decide (Ev (fun k => impl_CellsToStand_1.f l k x.f0 x.f1) true) (Classical.propDecidable _)
theorem dl_eq {l : List Cl} {x : Cl} {b : Bool} (h : Ev (fun k => impl_CellsToStand_1.f l k x.f0 x.f1) b) : dl l x = b := by
 unfold dl
 cases b with
 | true => exact @decide_eq_true _ (Classical.propDecidable _) h
 | false => exact @decide_eq_false _ (Classical.propDecidable _) (fun k => Bool.false_ne_true (ev_fun h k))
theorem each {l : List Cl} (b : IsB l) (hn : l.length ≤ 11) {x : Cl} (hx : x ∈ edge l) : Ev (fun k => impl_CellsToStand_1.f l k x.f0 x.f1) (dl l x) ∧ ((x.f1 < 0 ∧ dl l x = true) ∨ (0 ≤ x.f1 ∧ ∃ s, Ev (fun k => spec_l8Side.f k (pd (l ++ [x]) (one_pos l x))) s ∧ Ev (fun k => impl_bodySide.f k (pd (l ++ [x]) (one_pos l x))) s ∧ dl l x = (s != 0))) := by
 obtain ⟨h1, h2, _, _⟩ := (edge_mem l x).1 hx
 have hxs : Small x := ⟨⟨by omega, by omega⟩, by omega, by omega⟩
 by_cases h : x.f1 < 0
 ·have hc : Ev (fun k => impl_CellsToStand_1.f l k x.f0 x.f1) true := by
   unfold impl_CellsToStand_1.f
   exact ifp h (done rfl)
  have hd := dl_eq hc
  exact ⟨by rw [hd]; exact hc, Or.inl ⟨h, hd⟩⟩
 ·obtain ⟨s, s1, s2⟩ := side_ev _ (BodyV.laid (one_body b hn hx).v)
  have hw := withCell_ev (by omega) (fun y hy => (b.v.each y hy).small) hxs
  have hc : Ev (fun k => impl_CellsToStand_1.f l k x.f0 x.f1) (s != 0) := by
   unfold impl_CellsToStand_1.f
   exact ifn h (Ev.bind hw (Ev.bind s2 (done rfl)))
  have hd := dl_eq hc
  exact ⟨by rw [hd]; exact hc, Or.inr ⟨by omega, s, s1, s2, hd⟩⟩
theorem spec_loop {l : List Cl} (b : IsB l) (hn : l.length ≤ 11) : ∀ i, i ≤ (edge l).length → ∀ acc : List Cl, acc.length ≤ i → Ev (fun k => spec_CellsToStand.l0 k l acc (edge l) (i : Int)) (acc ++ ((edge l).drop i).filter (fun x => !dl l x), true) := by
 have hel := edge_len l
 refine downTo (edge l).length ?_ ?_
 ·intro acc _
  refine Ev.step (fun k => by simp only [spec_CellsToStand.l0]; exact rfl) (ifn (by omega) (done ?_))
  rw [List.drop_length, List.filter_nil, List.append_nil]
 ·intro i hi ih acc ha
  have hx := List.getElem_mem hi
  obtain ⟨h1, h2, _, _⟩ := (edge_mem l _).1 hx
  have hxs : Small (edge l)[i] := ⟨⟨by omega, by omega⟩, by omega, by omega⟩
  refine Ev.step (fun k => by simp only [spec_CellsToStand.l0]; exact rfl) (ifp (by omega) (ifp (by omega) ?_))
  rw [rdC hi, wrapS hi (by omega), drop_cons hi, List.filter_cons]
  rcases (each b hn hx).2 with ⟨h, hd⟩ | ⟨h, s, hs, _, hd⟩
  ·refine ifn (by omega) ?_
   rw [hd, if_neg (by simp)]
   exact ih acc (by omega)
  ·obtain ⟨p1, p2⟩ := ins_ev (l := l) (by omega) (fun y hy => (b.v.each y hy).small) hxs
   refine ifp (by omega) (Ev.bind p1 (Ev.bind p2 (Ev.bind hs ?_)))
   by_cases h0 : s = 0
   ·refine ifp h0 (ifp (by omega) ?_)
    rw [hd, h0, if_pos (by rfl)]
    have e := ih (acc ++ [(edge l)[i]]) (by rw [List.length_append, List.length_singleton]; omega)
    rw [List.append_assoc] at e
    exact e
   ·refine ifn h0 ?_
    rw [hd, bne_iff_ne.2 h0, if_neg (by simp)]
    exact ih acc (by omega)
theorem both (l : List Cl) (hn : l.length ≤ 1048576) : ∃ r : List Cl × Bool, Ev (fun k => spec_CellsToStand.f k l) r ∧ Ev (fun k => impl_CellsToStand.f k l) r ∧ r.1.length ≤ 1048576 ∧ (r.2 = true → ∃ b : IsB l, l.length ≤ 11 ∧ ∀ x ∈ r.1, x ∈ edge l ∧ Ev (fun k => impl_bodySide.f k (pd (l ++ [x]) (one_pos l x))) 0) := by
 obtain ⟨b, e1, e2, hv⟩ := isBody_ev l hn
 have stop : Ev (fun k => spec_CellsToStand.j0 k l [] true) ([], false) := Ev.step (fun k => by simp only [spec_CellsToStand.j0]; exact rfl) (ifp (Eq.refl true) (done rfl))
 unfold spec_CellsToStand.f impl_CellsToStand.f
 cases b with
 | false => exact ⟨([], false), somb rfl (Ev.bind e1 (ifn Bool.false_ne_true stop)), Ev.bind e2 (ifn Bool.false_ne_true (done rfl)), by simp, fun h => absurd h Bool.false_ne_true⟩
 | true =>
  have hb := isB_of hn e2
  have n1 := hb.v.n1
  by_cases h12 : (l.length : Int) = 12
  ·refine ⟨([], false), somb rfl (Ev.bind e1 (ifp (Eq.refl true) ?_)), Ev.bind e2 (ifp (Eq.refl true) (ifp h12 (done rfl))), by simp, fun h => absurd h Bool.false_ne_true⟩
   rw [beq_iff_eq.2 h12]; exact stop
  ·have hn11 : l.length ≤ 11 := by omega
   have hel := edge_len l
   have f1 := spec_loop hb hn11 0 (Nat.zero_le _) [] (by simp)
   rw [List.nil_append, List.drop_zero] at f1
   have he := edge_ev l (by omega) (fun x hx => (hb.v.each x hx).small)
   have hd := PureDelStand.del_ev l (edge l) (by omega) (dl l) (fun x hx => (each hb hn11 hx).1)
   have hl := List.length_filter_le (fun x => !dl l x) (edge l)
   refine ⟨((edge l).filter (fun x => !dl l x), true), somb rfl (Ev.bind e1 (ifp (Eq.refl true) ?_)), Ev.bind e2 (ifp (Eq.refl true) (ifn h12 (Ev.bind (besides_ev hb) (Ev.bind hd (done rfl))))), by show ((edge l).filter _).length ≤ 1048576; omega, fun _ => ⟨hb, hn11, fun x hx => ?_⟩⟩
   ·rw [beq_eq_false_iff_ne.2 h12]
    exact Ev.step (fun k => by simp only [spec_CellsToStand.j0]; exact rfl) (ifn Bool.false_ne_true (Ev.bind he f1))
   ·obtain ⟨hx1, hx2⟩ := List.mem_filter.1 hx
    refine ⟨hx1, ?_⟩
    rcases (each hb hn11 hx1).2 with ⟨_, hd⟩ | ⟨_, s, _, hs, hd⟩
    ·rw [hd] at hx2; cases hx2
    ·by_cases h0 : s = 0
     ·rw [h0] at hs; exact hs
     ·rw [hd, bne_iff_ne.2 h0] at hx2; cases hx2
end Go.Proofs.YtckhmeadflafaaaGreat.PureStandS
