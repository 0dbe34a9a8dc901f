/- The plain law of FnExactStandLoose: the program and the reference list the same loose cells without which the body stands. No conditions. -/
import Derived.Test.YtckhmeadflafaaaStatFnExactStandLoose
import Derived.Test.YtckhmeadflafaaaLoose
import Derived.Test.YtckhmeadflafaaaSide
import Derived.Test.YtckhmeadflafaaaDelLoose
import Derived.Test.YtckhmeadflafaaaEqInts
import Derived.Test.YtckhmeadflafaaaHeldInts
import Derived.Test.YtckhmeadflafaaaMarkA2
namespace Go.Proofs.Ytckhmeadflafaaa.fnExactStandLoose
open Go.RowKit Go.Proofs.Ytckhmeadflafaaa.XSl Go.Proofs.Ytckhmeadflafaaa.Plain Go.Proofs.Ytckhmeadflafaaa.PureCells Go.Proofs.Ytckhmeadflafaaa.PureBody Go.Proofs.Ytckhmeadflafaaa.PurePut Go.Proofs.Ytckhmeadflafaaa.PureGround Go.Proofs.Ytckhmeadflafaaa.PureSide Go.Proofs.Ytckhmeadflafaaa.PureLoose Go.Proofs.Ytckhmeadflafaaa.PureEqInts Go.Proofs.Ytckhmeadflafaaa.PureMarkInts Go.Proofs.Ytckhmeadflafaaa.PureHeldInts Go.Proofs.Ytckhmeadflafaaa.PureMarkA2 Go.Proofs.YtckhmeadflafaaaW.PrintWords Go.Proofs.YtckhmeadflafaaaW.PrintLast Go.Proofs.YtckhmeadflafaaaW.PrintMore
set_option linter.unusedVariables false
/-- Whether the closure says that a place goes out. -/
noncomputable def dl (l : List Cl) (x : Int) : Bool := @decide (Ev (fun k => impl_StandLoose_1.f l k x) true) (Classical.propDecidable _)
theorem dl_eq {l : List Cl} {x : Int} {b : Bool} (h : Ev (fun k => impl_StandLoose_1.f l k x) b) : dl l x = b := by
  unfold dl
  cases b with
  | true => exact @decide_eq_true _ (Classical.propDecidable _) h
  | false => exact @decide_eq_false _ (Classical.propDecidable _) (fun k => Bool.false_ne_true (ev_fun h k))
theorem loops (l : List Cl) (v : BodyV l) : ∀ i : Nat, i ≤ l.length → ∀ acc accS : List Int, acc.length ≤ i → accS.length ≤ i → ∃ r rs : List Int, Ev (fun k => spec_l8Loose.l0 k l true accS (i : Int)) (accS ++ rs) ∧ Ev (fun k => impl_LooseCells.l0 k l acc (l.length : Int) (i : Int)) (acc ++ r, true) ∧ r.length + i ≤ l.length ∧ (∀ x ∈ r, Ev (fun k => impl_StandLoose_1.f l k x) (dl l x)) ∧ rs = r.filter (fun x => !dl l x) := by
  have n1 := v.n1
  refine downTo l.length ?_ ?_
  · intro acc accS ha hs
    exact ⟨[], [], Ev.step (fun k => by simp only [spec_l8Loose.l0]; exact rfl) (ifn (by omega) (done (List.append_nil _).symm)), Ev.step (fun k => by simp only [impl_LooseCells.l0]; exact rfl) (ifn (by omega) (done (by rw [List.append_nil]))), by simp, fun x hx => absurd hx List.not_mem_nil, rfl⟩
  · intro i hi ih acc accS ha hs
    have hal : acc.length < 17592186044416 := by omega
    have hsl : accS.length < 17592186044416 := by omega
    have hil : (i : Int) < (l.length : Int) := by omega
    have hw : wrap64 ((i : Int) + 1) = ((i + 1 : Nat) : Int) := wrapS hi (by omega)
    obtain ⟨b, q, p, w1, w2, w3, w4, w5⟩ := without_ev v i hi
    cases b with
    | true =>
      obtain ⟨epq, wb⟩ := w4 rfl
      subst epq
      obtain ⟨tb, t1, t2, t3⟩ := isBody_ev p (by omega)
      have vp := t3 (ev_fun t1 wb)
      obtain ⟨s, s1, s2⟩ := side_ev p (BodyV.laid vp)
      have hc : Ev (fun k => impl_StandLoose_1.f l k (i : Int)) (s != 0) := by
        unfold impl_StandLoose_1.f
        exact Ev.bind w2 (Ev.bind s2 (done rfl))
      have hdl := dl_eq hc
      rw [← hdl] at hc
      have hmem : ∀ r : List Int, (∀ x ∈ r, Ev (fun k => impl_StandLoose_1.f l k x) (dl l x)) → ∀ x ∈ (i : Int) :: r, Ev (fun k => impl_StandLoose_1.f l k x) (dl l x) := by
        intro r hr x hx
        rcases List.mem_cons.1 hx with e | hx
        · rw [e]; exact hc
        · exact hr x hx
      by_cases hs0 : s = 0
      · obtain ⟨r, rs, e1, e2, e3, e4, e5⟩ := ih (acc ++ [(i : Int)]) (accS ++ [(i : Int)]) (by simp; omega) (by simp; omega)
        rw [← hw] at e1 e2
        rw [List.append_assoc] at e1 e2
        refine ⟨(i : Int) :: r, (i : Int) :: rs, (by
          refine Ev.step (fun k => by simp only [spec_l8Loose.l0]; exact rfl) (ifp hil ?_)
          refine Ev.bind w1 ?_
          refine ifp (Eq.refl true) ?_
          refine ifp trivial ?_
          refine Ev.bind s1 ?_
          exact ifp hs0 (ifp hsl e1)), Ev.step (fun k => by simp only [impl_LooseCells.l0]; exact rfl) (ifp hil (Ev.bind w2 (Ev.bind w3 (ifp (Eq.refl true) (ifp hal e2))))), by rw [List.length_cons]; omega, hmem r e4, ?_⟩
        rw [List.filter_cons, if_pos (by rw [hdl, hs0]; rfl), e5]
      · obtain ⟨r, rs, e1, e2, e3, e4, e5⟩ := ih (acc ++ [(i : Int)]) accS (by simp; omega) (by omega)
        rw [← hw] at e1 e2
        rw [List.append_assoc] at e2
        refine ⟨(i : Int) :: r, rs, (by
          refine Ev.step (fun k => by simp only [spec_l8Loose.l0]; exact rfl) (ifp hil ?_)
          refine Ev.bind w1 ?_
          refine ifp (Eq.refl true) ?_
          refine ifp trivial ?_
          refine Ev.bind s1 ?_
          exact ifn hs0 e1), Ev.step (fun k => by simp only [impl_LooseCells.l0]; exact rfl) (ifp hil (Ev.bind w2 (Ev.bind w3 (ifp (Eq.refl true) (ifp hal e2))))), by rw [List.length_cons]; omega, hmem r e4, ?_⟩
        rw [List.filter_cons, if_neg (by rw [hdl, bne_iff_ne.2 hs0]; simp), e5]
    | false =>
      obtain ⟨r, rs, e1, e2, e3, e4, e5⟩ := ih acc accS (by omega) (by omega)
      rw [← hw] at e1 e2
      exact ⟨r, rs, Ev.step (fun k => by simp only [spec_l8Loose.l0]; exact rfl) (ifp hil (Ev.bind w1 (ifn Bool.false_ne_true e1))), Ev.step (fun k => by simp only [impl_LooseCells.l0]; exact rfl) (ifp hil (Ev.bind w2 (Ev.bind w3 (ifn Bool.false_ne_true e2)))), by omega, e4, e5⟩
theorem both (l : List Cl) (hn : l.length ≤ 1048576) : ∃ r : List Int × Bool, Ev (fun k => spec_StandLoose.f k l) r ∧ Ev (fun k => impl_StandLoose.f k l) r ∧ r.1.length ≤ 1048576 := by
  obtain ⟨b, e1, e2, hv⟩ := isBody_ev l hn
  unfold spec_StandLoose.f impl_StandLoose.f impl_LooseCells.f
  cases b with
  | false => exact ⟨([], false), Ev.bind e1 (ifn Bool.false_ne_true (done rfl)), Ev.bind (Ev.bind e2 (ifn Bool.false_ne_true (done rfl))) (ifn Bool.false_ne_true (done rfl)), by simp⟩
  | true =>
    have v := hv rfl
    have n1 := v.n1
    obtain ⟨r, rs, f1, f2, f3, f4, f5⟩ := loops l v 0 (Nat.zero_le _) [] [] (by simp) (by simp)
    rw [List.nil_append] at f1 f2
    have hd := PureDelLoose.del_ev l r (by omega) (dl l) f4
    rw [← f5] at hd
    have hl : rs.length ≤ r.length := by rw [f5]; exact List.length_filter_le _ _
    exact ⟨(rs, true), Ev.bind e1 (ifp (Eq.refl true) (Ev.bind (by unfold spec_l8Loose.f; exact f1) (done rfl))), Ev.bind (Ev.bind e2 (ifp (Eq.refl true) f2)) (ifp (Eq.refl true) (Ev.bind hd (done rfl))), by show rs.length ≤ 1048576; omega⟩
theorem pure : Pure := by
  intro l hl _
  obtain ⟨t, ht, hlen⟩ := szIntA2S_eq l (by omega)
  refine Ev.rounds ?_
  unfold laws_FnExactStandLoose.f
  refine somb ht (ifc (fun _ => done rfl) fun hneg => ?_)
  have hm := hlen hneg
  have hto := toIntA2S_ev l (by omega)
  have heq := eqIntA2S_ev l (by omega)
  obtain ⟨r, e1, e2, hr⟩ := both l hm
  have q := eqIntS_ev r.1 (by omega)
  obtain ⟨R1, m1⟩ := markA2_ev l hm 1 (by omega) (by omega)
  obtain ⟨R3, m3, m3l, m3r⟩ := markIntS_ev r.1 (by omega) 1 (by omega) (by omega)
  have h3 := heldIntS_ev R3 r.1.length m3l (by omega) 1 (by omega) (by omega) m3r
  have hneg1 : ¬ (1 + (r.1.length : Int)) < 0 := by omega
  have hneg2 : ¬ (1 + ((2 * l.length : Nat) : Int)) < 0 := by omega
  have hne : ¬ ((r.2 != r.2) = true) := by simp
  refine Ev.bind hto (Ev.bind e1 (Ev.bind hto (Ev.bind e2 (Ev.bind q (ifp (Eq.refl true) (ifn hne ?_))))))
  refine Ev.bind hto (Ev.bind heq (ifp (Eq.refl true) (Ev.bind m1 (ifn hneg2 (Ev.bind q (ifp (Eq.refl true) ?_))))))
  refine Ev.bind m3 (Ev.bind h3 (ifn hneg1 (ifp rfl (Ev.bind hto (Ev.bind e2 (Ev.bind q (ifp (Eq.refl true) (ifn hne ?_))))))))
  exact Ev.bind h3 (ifn hneg1 (ifp rfl (done rfl)))
end Go.Proofs.Ytckhmeadflafaaa.fnExactStandLoose
