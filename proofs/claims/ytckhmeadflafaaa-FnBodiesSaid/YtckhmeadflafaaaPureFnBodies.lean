/- The plain law of FnBodies: turning there and back leaves a body, four turns too, a mirrored one tips to the other side, and tumbling ends on one of the ways to stand. No conditions. -/
import Derived.Test.YtckhmeadflafaaaXFbx
import Derived.Test.YtckhmeadflafaaaBody
import Derived.Test.YtckhmeadflafaaaGround
import Derived.Test.YtckhmeadflafaaaSide
import Derived.Test.YtckhmeadflafaaaFracs
import Derived.Test.YtckhmeadflafaaaPut
import Derived.Test.YtckhmeadflafaaaLaid
import Derived.Test.YtckhmeadflafaaaTurn
import Derived.Test.YtckhmeadflafaaaDrawBody
import Derived.Test.YtckhmeadflafaaaRots
import Derived.Test.YtckhmeadflafaaaRlaws
/-! What BodySide says, in the program and in the reference alike. No conditions beyond those of the lemmas' own hypotheses. -/
namespace Go.Proofs.Ytckhmeadflafaaa.PureBothBodySide
open Go.RowKit Go.Proofs.Ytckhmeadflafaaa.XFb Go.Proofs.Ytckhmeadflafaaa.Plain Go.Proofs.Ytckhmeadflafaaa.PureCells Go.Proofs.Ytckhmeadflafaaa.PureBody Go.Proofs.Ytckhmeadflafaaa.PureGround Go.Proofs.Ytckhmeadflafaaa.PureSide Go.Proofs.YtckhmeadflafaaaW.PrintWords Go.Proofs.YtckhmeadflafaaaW.PrintLast Go.Proofs.YtckhmeadflafaaaW.PrintMore
set_option linter.unusedVariables false
theorem both (l : List Cl) (hn : l.length ≤ 1048576) : ∃ r, Ev (fun k => spec_BodySide.f k l) r ∧ Ev (fun k => impl_BodySide.f k l) r := by
  obtain ⟨r, e1, e2, hv⟩ := isBody_ev l hn
  unfold spec_BodySide.f impl_BodySide.f
  cases r with
  | false => exact ⟨(0, false), Ev.bind e1 (ifn Bool.false_ne_true (done rfl)), Ev.bind e2 (ifn Bool.false_ne_true (done rfl))⟩
  | true =>
    obtain ⟨s, f1, f2⟩ := side_ev l (BodyV.laid (hv rfl))
    exact ⟨(s, true), Ev.bind e1 (ifp (Eq.refl true) (Ev.bind f1 (done rfl))), Ev.bind e2 (ifp (Eq.refl true) (Ev.bind f2 (done rfl)))⟩
end Go.Proofs.Ytckhmeadflafaaa.PureBothBodySide
/-! What BodyCentre says, in the program and in the reference alike. No conditions beyond those of the lemmas' own hypotheses. -/
namespace Go.Proofs.Ytckhmeadflafaaa.PureBothBodyCentre
open Go.RowKit Go.Proofs.Ytckhmeadflafaaa.XFb Go.Proofs.Ytckhmeadflafaaa.Plain Go.Proofs.Ytckhmeadflafaaa.PureCells Go.Proofs.Ytckhmeadflafaaa.PureBody Go.Proofs.Ytckhmeadflafaaa.PureGround Go.Proofs.Ytckhmeadflafaaa.PureFracs Go.Proofs.YtckhmeadflafaaaW.PrintWords Go.Proofs.YtckhmeadflafaaaW.PrintLast Go.Proofs.YtckhmeadflafaaaW.PrintMore
set_option linter.unusedVariables false
theorem middle1_rel (l : List Cl) (hn : l.length ≤ 12) (hr : ∀ x ∈ l, InR x) : ∀ i, i ≤ l.length → ∀ s : Int, 0 ≤ s → s ≤ 25 * (i : Int) → ∃ r, Ev (fun k => spec_l8Middle_1.l0 k l s (i : Int)) r ∧ Ev (fun k => impl_middles_1.l0 k s l (l.length : Int) (i : Int)) r ∧ 0 ≤ r ∧ r ≤ 300 := by
  refine downTo l.length ?_ ?_
  · intro s h0 h1
    exact ⟨s, Ev.step (fun k => by simp only [spec_l8Middle_1.l0]; exact rfl) (ifn (by omega) (done rfl)), Ev.step (fun k => by simp only [impl_middles_1.l0]; exact rfl) (ifn (by omega) (done rfl)), h0, by omega⟩
  · intro i hi ih s h0 h1
    obtain ⟨⟨x0, x1⟩, y0, y1⟩ := hr l[i] (List.getElem_mem hi)
    obtain ⟨r, e1, e2, e3⟩ := ih (s + 2 * l[i].f1 + 1) (by omega) (by omega)
    refine ⟨r, Ev.step (fun k => by simp only [spec_l8Middle_1.l0]; exact rfl) (ifp (by omega) (ifp (by omega) ?_)), Ev.step (fun k => by simp only [impl_middles_1.l0]; exact rfl) (ifp (by omega) (ifp (by omega) (ifp (by omega) ?_))), e3⟩
    · rw [rdC hi, wrapS hi (by omega), w64 (x := 2 * l[i].f1) (by omega) (by omega), w64 (x := s + 2 * l[i].f1) (by omega) (by omega), w64 (by omega) (by omega)]
      exact e1
    · rw [rdC hi, wrapS hi (by omega), w64 (x := 2 * l[i].f1) (by omega) (by omega), w64 (x := 2 * l[i].f1 + 1) (by omega) (by omega), w64 (by omega) (by omega), ← Int.add_assoc]
      exact e2
theorem middle1_ev (l : List Cl) (hn : l.length ≤ 12) (hr : ∀ x ∈ l, InR x) : ∃ r, Ev (fun k => spec_l8Middle_1.f k l) r ∧ Ev (fun k => impl_middles_1.f k l) r ∧ 0 ≤ r ∧ r ≤ 300 := middle1_rel l hn hr 0 (Nat.zero_le _) 0 (by omega) (by omega)
theorem both (l : List Cl) (hn : l.length ≤ 1048576) : ∃ r, Ev (fun k => spec_BodyCentre.f k l) r ∧ Ev (fun k => impl_BodyCentre.f k l) r := by
  obtain ⟨r, e1, e2, hv⟩ := isBody_ev l hn
  unfold spec_BodyCentre.f impl_BodyCentre.f
  cases r with
  | false => exact ⟨(0, 0, 0, 0, false), Ev.bind e1 (ifn Bool.false_ne_true (done rfl)), Ev.bind e2 (ifn Bool.false_ne_true (done rfl))⟩
  | true =>
    have v := hv rfl
    have n0 := v.n0
    have n1 := v.n1
    obtain ⟨s, f1, f2, s0, s1⟩ := middle0_ev l v.n1 v.each
    obtain ⟨t, g1, g2, t0, t1⟩ := middle1_ev l v.n1 v.each
    rw [w64 (x := 2 * (l.length : Int)) (by omega) (by omega)]
    have a1 := l2Cut_ev (a := s) (b := 2 * (l.length : Int)) s0 (by omega) (by omega) (by omega)
    have a2 := fraction_ev (a := s) (b := 2 * (l.length : Int)) s0 (by omega) (by omega) (by omega)
    have b1 := l2Cut_ev (a := t) (b := 2 * (l.length : Int)) t0 (by omega) (by omega) (by omega)
    have b2 := fraction_ev (a := t) (b := 2 * (l.length : Int)) t0 (by omega) (by omega) (by omega)
    exact ⟨((cut s (2 * (l.length : Int))).1, (cut s (2 * (l.length : Int))).2, (cut t (2 * (l.length : Int))).1, (cut t (2 * (l.length : Int))).2, true), Ev.bind e1 (ifp (Eq.refl true) (Ev.bind f1 (Ev.bind a1 (Ev.bind g1 (Ev.bind b1 (done rfl)))))), Ev.bind e2 (ifp (Eq.refl true) (Ev.bind f2 (Ev.bind a2 (Ev.bind g2 (Ev.bind b2 (done rfl))))))⟩
end Go.Proofs.Ytckhmeadflafaaa.PureBothBodyCentre
/-! What GroundOf says, in the program and in the reference alike. No conditions beyond those of the lemmas' own hypotheses. -/
namespace Go.Proofs.Ytckhmeadflafaaa.PureBothGroundOf
open Go.RowKit Go.Proofs.Ytckhmeadflafaaa.XFb Go.Proofs.Ytckhmeadflafaaa.Plain Go.Proofs.Ytckhmeadflafaaa.PureCells Go.Proofs.Ytckhmeadflafaaa.PureBody Go.Proofs.Ytckhmeadflafaaa.PureGround Go.Proofs.YtckhmeadflafaaaW.PrintWords Go.Proofs.YtckhmeadflafaaaW.PrintLast Go.Proofs.YtckhmeadflafaaaW.PrintMore
set_option linter.unusedVariables false
theorem both (l : List Cl) (hn : l.length ≤ 1048576) : ∃ r, Ev (fun k => spec_GroundOf.f k l) r ∧ Ev (fun k => impl_GroundOf.f k l) r := by
  obtain ⟨r, e1, e2, hv⟩ := isBody_ev l hn
  unfold spec_GroundOf.f impl_GroundOf.f
  cases r with
  | false => exact ⟨(0, 0, false), Ev.bind e1 (ifn Bool.false_ne_true (done rfl)), Ev.bind e2 (ifn Bool.false_ne_true (done rfl))⟩
  | true =>
    obtain ⟨a, b, f1, f2, _⟩ := ground_ev l (BodyV.laid (hv rfl))
    exact ⟨(a, b, true), Ev.bind e1 (ifp (Eq.refl true) (Ev.bind f1 (done rfl))), Ev.bind e2 (ifp (Eq.refl true) (Ev.bind f2 (done rfl)))⟩
end Go.Proofs.Ytckhmeadflafaaa.PureBothGroundOf
/-! What MirrorBody says, in the program and in the reference alike. No conditions beyond those of the lemmas' own hypotheses. -/
namespace Go.Proofs.Ytckhmeadflafaaa.PureBothMirrorBody
open Go.RowKit Go.Proofs.Ytckhmeadflafaaa.XFb Go.Proofs.Ytckhmeadflafaaa.Plain Go.Proofs.Ytckhmeadflafaaa.PureCells Go.Proofs.Ytckhmeadflafaaa.PureBody Go.Proofs.Ytckhmeadflafaaa.PurePut Go.Proofs.YtckhmeadflafaaaW.PrintWords Go.Proofs.YtckhmeadflafaaaW.PrintLast Go.Proofs.YtckhmeadflafaaaW.PrintMore
set_option linter.unusedVariables false
def mir (x : Cl) : Cl := ⟨-x.f0, x.f1⟩
theorem mir_small {l : List Cl} (h : ∀ x ∈ l, InR x) : ∀ x ∈ l.map mir, Small x := by
  intro x hx
  obtain ⟨y, hy, rfl⟩ := List.mem_map.1 hx
  obtain ⟨⟨a, b⟩, c, d⟩ := h y hy
  refine ⟨⟨?_, ?_⟩, ?_, ?_⟩ <;> simp only [mir] <;> omega
theorem spec_loop (l : List Cl) (hn : l.length ≤ 12) (hr : ∀ x ∈ l, InR x) (r : List Cl) (e : Ev (fun k => spec_l8Down.f k (l.map mir)) r) : ∀ i, i ≤ l.length → ∀ acc, acc = (l.take i).map mir → Ev (fun k => spec_MirrorBody.l0 k l acc (i : Int)) (r, true) := by
  refine downTo l.length ?_ ?_
  · intro acc h
    rw [List.take_length] at h
    subst h
    exact Ev.step (fun k => by simp only [spec_MirrorBody.l0]; exact rfl) (ifn (by omega) (Ev.bind e (done rfl)))
  · intro i hi ih acc h
    have hal : acc.length = i := by rw [h, List.length_map, List.length_take]; omega
    obtain ⟨⟨x0, x1⟩, y0, y1⟩ := hr l[i] (List.getElem_mem hi)
    refine Ev.step (fun k => by simp only [spec_MirrorBody.l0]; exact rfl) (ifp (by omega) (ifp (by omega) (ifp (by omega) ?_)))
    rw [rdC hi, wrapS hi (by omega), w64 (x := -l[i].f0) (by omega) (by omega)]
    refine ih _ ?_
    rw [h, take_succ hi, List.map_append]
    rfl
theorem impl_loop (l : List Cl) (hn : l.length ≤ 12) (hr : ∀ x ∈ l, InR x) (r : List Cl) (e : Ev (fun k => impl_put.f k (l.map mir)) r) : ∀ i, i ≤ l.length → ∀ acc, acc = (l.take i).map mir → Ev (fun k => impl_cellsBy_MirrorBody_1.l0 k acc l (l.length : Int) (i : Int)) r := by
  refine downTo l.length ?_ ?_
  · intro acc h
    rw [List.take_length] at h
    subst h
    exact Ev.step (fun k => by simp only [impl_cellsBy_MirrorBody_1.l0]; exact rfl) (ifn (by omega) (Ev.bind e (done rfl)))
  · intro i hi ih acc h
    have hal : acc.length = i := by rw [h, List.length_map, List.length_take]; omega
    obtain ⟨⟨x0, x1⟩, y0, y1⟩ := hr l[i] (List.getElem_mem hi)
    refine Ev.step (fun k => by simp only [impl_cellsBy_MirrorBody_1.l0]; exact rfl) (ifp (by omega) (ifp (by omega) (ifp (by omega) ?_)))
    rw [rdC hi, wrapS hi (by omega)]
    refine somb (a := (-l[i].f0, l[i].f1)) ?_ (ifp (by omega) ?_)
    · unfold impl_MirrorBody_1.f
      rw [w64 (x := -l[i].f0) (by omega) (by omega)]
    · refine ih _ ?_
      rw [h, take_succ hi, List.map_append]
      rfl
theorem both (l : List Cl) (hn : l.length ≤ 1048576) : ∃ r : List Cl × Bool, Ev (fun k => spec_MirrorBody.f k l) r ∧ Ev (fun k => impl_MirrorBody.f k l) r ∧ r.1.length ≤ 1048576 := by
  obtain ⟨b, e1, e2, hv⟩ := isBody_ev l hn
  unfold spec_MirrorBody.f impl_MirrorBody.f
  cases b with
  | false => exact ⟨([], false), Ev.bind e1 (ifn Bool.false_ne_true (done rfl)), Ev.bind e2 (ifn Bool.false_ne_true (done rfl)), by simp⟩
  | true =>
    have v := hv rfl
    have hs := mir_small v.each
    have h0 : 0 < (l.map mir).length := by rw [List.length_map]; exact v.n0
    have n1 := v.n1
    have f1 := l8Down_ev (l.map mir) h0 (by rw [List.length_map]; omega) hs
    have f2 := put_ev (l.map mir) h0 (by rw [List.length_map]; omega) hs
    have g1 := spec_loop l v.n1 v.each _ f1 0 (Nat.zero_le _) [] rfl
    have g2 : Ev (fun k => impl_cellsBy_MirrorBody_1.f k l) (pd (l.map mir) h0) := impl_loop l v.n1 v.each _ f2 0 (Nat.zero_le _) [] rfl
    exact ⟨(pd (l.map mir) h0, true), Ev.bind e1 (ifp (Eq.refl true) g1), Ev.bind e2 (ifp (Eq.refl true) (Ev.bind g2 (done rfl))), by show (pd (l.map mir) h0).length ≤ 1048576; rw [pd_len, List.length_map]; omega⟩
end Go.Proofs.Ytckhmeadflafaaa.PureBothMirrorBody
/-! What TumbleBody says, in the program and in the reference alike. No conditions beyond those of the lemmas' own hypotheses. -/
namespace Go.Proofs.Ytckhmeadflafaaa.PureBothTumbleBody
open Go.RowKit Go.Proofs.Ytckhmeadflafaaa.XFb Go.Proofs.Ytckhmeadflafaaa.Plain Go.Proofs.Ytckhmeadflafaaa.PureCells Go.Proofs.Ytckhmeadflafaaa.PureBody Go.Proofs.Ytckhmeadflafaaa.PureGround Go.Proofs.Ytckhmeadflafaaa.PurePut Go.Proofs.Ytckhmeadflafaaa.PureTurn Go.Proofs.Ytckhmeadflafaaa.PureLaid Go.Proofs.Ytckhmeadflafaaa.PureSide Go.Proofs.YtckhmeadflafaaaW.PrintWords Go.Proofs.YtckhmeadflafaaaW.PrintLast Go.Proofs.YtckhmeadflafaaaW.PrintMore
set_option linter.unusedVariables false
theorem side_val (l : List Cl) (v : LaidV l) : ∃ s, (s = 0 ∨ Side s) ∧ Ev (fun k => spec_l8Side.f k l) s ∧ Ev (fun k => impl_bodySide.f k l) s := by
  obtain ⟨s, e1, e2⟩ := side_ev l v
  refine ⟨s, ?_, e1, e2⟩
  obtain ⟨a, b, f1, f2, _⟩ := ground_ev l v
  obtain ⟨m, g1, g2, _⟩ := middle0_ev l v.n1 v.each
  have key : ∃ s', (s' = 0 ∨ Side s') ∧ Ev (fun k => impl_bodySide.f k l) s' := by
    unfold impl_bodySide.f
    by_cases c1 : m < wrap64 (a * wrap64 (2 * (l.length : Int)))
    · exact ⟨-1, Or.inr (Or.inr rfl), Ev.bind f2 (Ev.bind g2 (ifp c1 (done rfl)))⟩
    · by_cases c2 : m > wrap64 (b * wrap64 (2 * (l.length : Int)))
      · exact ⟨1, Or.inr (Or.inl rfl), Ev.bind f2 (Ev.bind g2 (ifn c1 (ifp c2 (done rfl))))⟩
      · exact ⟨0, Or.inl rfl, Ev.bind f2 (Ev.bind g2 (ifn c1 (ifn c2 (done rfl))))⟩
  obtain ⟨s', h, e3⟩ := key
  rw [ev_fun e2 e3]; exact h
theorem pd_body {l : List Cl} (v : BodyV l) : pd l v.n0 = l := by
  unfold pd
  rw [v.lw0 v.n0, v.dn0 v.n0]
  have e : l.map (sh 0 0) = l := by
    have : sh 0 0 = id := by funext x; simp [sh]
    rw [this, List.map_id]
  rw [e]
  obtain ⟨s1, s2⟩ := sortC_spec l
  refine (s2.eq_of_pairwise (fun a b _ _ h k => le_antisymm h k) s1 ?_)
  rw [List.pairwise_iff_getElem]
  have key : ∀ d i, (h : i + d < l.length) → Le l[i] l[i + d] := by
    intro d
    induction d with
    | zero => intro i h; unfold Le; rw [← Bool.not_eq_true, bef_iff]; simp
    | succ d ih =>
      intro i h
      have h1 := ih i (by omega)
      have h2 := le_of_bef (v.sorted (i + (d + 1)) h (by omega))
      have e : l[i + (d + 1) - 1]'(by omega) = l[i + d]'(by omega) := by congr 1
      rw [e] at h2
      exact le_trans h1 h2
  intro i j hi hj hij
  obtain ⟨d, rfl⟩ : ∃ d, j = i + d := ⟨j - i, by omega⟩
  exact key d i hj
theorem loops : ∀ i : Nat, i ≤ 4 → ∀ (l : List Cl), LaidV l → ∃ r : List Cl × Int × Bool, Ev (fun k => spec_TumbleBody.l0 k l (i : Int)) r ∧ Ev (fun k => impl_TumbleBody.l0 k l (i : Int)) r ∧ r.1.length ≤ 12 := by
  refine downTo 4 ?_ ?_
  · intro l v
    obtain ⟨s, hs, s1, s2⟩ := side_val l v
    obtain ⟨t1, t2⟩ : True ∧ True := ⟨trivial, trivial⟩
    by_cases h : s = 0
    · refine ⟨(l, 4, true), Ev.step (fun k => by simp only [spec_TumbleBody.l0]; exact rfl) (Ev.bind s1 (ifp h ?_)), Ev.step (fun k => by simp only [impl_TumbleBody.l0]; exact rfl) (ifp (by omega) (Ev.bind s2 (ifp h (done rfl)))), v.n1⟩
      exact Ev.step (fun k => by simp only [spec_TumbleBody.j1]; exact rfl) (ifn Bool.false_ne_true (Ev.bind s1 (ifp h (done rfl))))
    · have hd : Side s := hs.resolve_left h
      obtain ⟨u1, u2⟩ := turn_ev hd l v.n0 (by have := v.n1; omega) (LaidV.sm v)
      refine ⟨([], 0, false), Ev.step (fun k => by simp only [spec_TumbleBody.l0]; exact rfl) (Ev.bind s1 (ifn h ?_)), Ev.step (fun k => by simp only [impl_TumbleBody.l0]; exact rfl) (ifp (by omega) (Ev.bind s2 (ifn h (Ev.bind u2 ?_)))), by simp⟩
      · rw [decide_eq_false (by omega)]
        exact Ev.step (fun k => by simp only [spec_TumbleBody.j1]; exact rfl) (ifn Bool.false_ne_true (Ev.bind s1 (ifn h (done rfl))))
      · have hw : wrap64 (((4 : Nat) : Int) + 1) = 5 := by rw [w64 (by omega) (by omega)]; rfl
        rw [hw]
        exact Ev.step (fun k => by simp only [impl_TumbleBody.l0]; exact rfl) (ifn (by omega) (done rfl))
  · intro i hi ih l v
    obtain ⟨s, hs, s1, s2⟩ := side_val l v
    have hi5 : (i : Int) < 5 := by omega
    by_cases h : s = 0
    · refine ⟨(l, (i : Int), true), Ev.step (fun k => by simp only [spec_TumbleBody.l0]; exact rfl) (Ev.bind s1 (ifp h ?_)), Ev.step (fun k => by simp only [impl_TumbleBody.l0]; exact rfl) (ifp hi5 (Ev.bind s2 (ifp h (done rfl)))), v.n1⟩
      exact Ev.step (fun k => by simp only [spec_TumbleBody.j1]; exact rfl) (ifn Bool.false_ne_true (Ev.bind s1 (ifp h (done rfl))))
    · have hd : Side s := hs.resolve_left h
      obtain ⟨u1, u2⟩ := turn_ev hd l v.n0 (by have := v.n1; omega) (LaidV.sm v)
      obtain ⟨r, e1, e2, e3⟩ := ih _ (turn_laid hd v)
      have hw : wrap64 ((i : Int) + 1) = ((i + 1 : Nat) : Int) := wrapS hi (by omega)
      rw [← hw] at e1 e2
      refine ⟨r, Ev.step (fun k => by simp only [spec_TumbleBody.l0]; exact rfl) (Ev.bind s1 (ifn h ?_)), Ev.step (fun k => by simp only [impl_TumbleBody.l0]; exact rfl) (ifp hi5 (Ev.bind s2 (ifn h (Ev.bind u2 e2)))), e3⟩
      rw [decide_eq_true (show (i : Int) < 4 by omega)]
      exact Ev.step (fun k => by simp only [spec_TumbleBody.j1]; exact rfl) (ifp (Eq.refl true) (Ev.bind s1 (Ev.bind u1 e1)))
theorem both (l : List Cl) (hn : l.length ≤ 1048576) : ∃ r : List Cl × Int × Bool, Ev (fun k => spec_TumbleBody.f k l) r ∧ Ev (fun k => impl_TumbleBody.f k l) r ∧ r.1.length ≤ 12 := by
  obtain ⟨b, e1, e2, hv⟩ := isBody_ev l hn
  unfold spec_TumbleBody.f impl_TumbleBody.f
  cases b with
  | false => exact ⟨([], 0, false), Ev.bind e1 (ifn Bool.false_ne_true (done rfl)), Ev.bind e2 (ifn Bool.false_ne_true (done rfl)), by simp⟩
  | true =>
    have v := hv rfl
    obtain ⟨r, f1, f2, f3⟩ := loops 0 (by omega) l (BodyV.laid v)
    have d := l8Down_ev l v.n0 (by have := v.n1; omega) (fun x hx => (v.each x hx).small)
    rw [pd_body v] at d
    have hcl : slices_Clone.f l = some l := by unfold slices_Clone.f; rw [if_pos (by have := v.n1; omega)]
    exact ⟨r, Ev.bind e1 (ifp (Eq.refl true) (Ev.bind d f1)), Ev.bind e2 (ifp (Eq.refl true) (somb hcl f2)), f3⟩
end Go.Proofs.Ytckhmeadflafaaa.PureBothTumbleBody
/-! What StandingTurns says, in the program and in the reference alike. No conditions beyond those of the lemmas' own hypotheses. -/
namespace Go.Proofs.Ytckhmeadflafaaa.PureBothStandingTurns
open Go.RowKit Go.Proofs.Ytckhmeadflafaaa.XFb Go.Proofs.Ytckhmeadflafaaa.Plain Go.Proofs.Ytckhmeadflafaaa.PureCells Go.Proofs.Ytckhmeadflafaaa.PureBody Go.Proofs.Ytckhmeadflafaaa.PureGround Go.Proofs.Ytckhmeadflafaaa.PurePut Go.Proofs.Ytckhmeadflafaaa.PureTurn Go.Proofs.Ytckhmeadflafaaa.PureLaid Go.Proofs.Ytckhmeadflafaaa.PureSide Go.Proofs.YtckhmeadflafaaaW.PrintWords Go.Proofs.YtckhmeadflafaaaW.PrintLast Go.Proofs.YtckhmeadflafaaaW.PrintMore
set_option linter.unusedVariables false
theorem loops : ∀ i, i ≤ 4 → ∀ (l : List Cl), LaidV l → ∀ acc : List Int, acc.length ≤ i → ∃ r : List Int × Bool, Ev (fun k => spec_StandingTurns.l0 k acc l (i : Int)) r ∧ Ev (fun k => impl_StandingTurns.l0 k acc l (i : Int)) r ∧ r.1.length ≤ 4 := by
  refine downTo 4 ?_ ?_
  · intro l v acc ha
    exact ⟨(acc, true), Ev.step (fun k => by simp only [spec_StandingTurns.l0]; exact rfl) (ifn (by omega) (done rfl)), Ev.step (fun k => by simp only [impl_StandingTurns.l0]; exact rfl) (ifn (by omega) (done rfl)), ha⟩
  · intro i hi ih l v acc ha
    have n1 := v.n1
    have hi4 : (i : Int) < 4 := by omega
    have hal : acc.length < 17592186044416 := by omega
    have hw : wrap64 ((i : Int) + 1) = ((i + 1 : Nat) : Int) := wrapS hi (by omega)
    obtain ⟨s, s1, s2⟩ := side_ev l v
    obtain ⟨t1, t2⟩ := turn_ev (Or.inl rfl : Side 1) l v.n0 (by omega) (LaidV.sm v)
    have v2 := turn_laid (Or.inl rfl : Side 1) v
    by_cases hs : s = 0
    · obtain ⟨r, e1, e2, e3⟩ := ih _ v2 (acc ++ [(i : Int)]) (by simp; omega)
      rw [← hw] at e1 e2
      exact ⟨r, Ev.step (fun k => by simp only [spec_StandingTurns.l0]; exact rfl) (ifp hi4 (Ev.bind s1 (ifp hs (ifp hal (Ev.bind t1 e1))))), Ev.step (fun k => by simp only [impl_StandingTurns.l0]; exact rfl) (ifp hi4 (Ev.bind s2 (ifp hs (ifp hal (Ev.bind t2 e2))))), e3⟩
    · obtain ⟨r, e1, e2, e3⟩ := ih _ v2 acc (by omega)
      rw [← hw] at e1 e2
      exact ⟨r, Ev.step (fun k => by simp only [spec_StandingTurns.l0]; exact rfl) (ifp hi4 (Ev.bind s1 (ifn hs (Ev.bind t1 e1)))), Ev.step (fun k => by simp only [impl_StandingTurns.l0]; exact rfl) (ifp hi4 (Ev.bind s2 (ifn hs (Ev.bind t2 e2)))), e3⟩
theorem both (l : List Cl) (hn : l.length ≤ 1048576) : ∃ r : List Int × Bool, Ev (fun k => spec_StandingTurns.f k l) r ∧ Ev (fun k => impl_StandingTurns.f k l) r ∧ r.1.length ≤ 1048576 := by
  obtain ⟨b, e1, e2, hv⟩ := isBody_ev l hn
  unfold spec_StandingTurns.f impl_StandingTurns.f
  cases b with
  | false => exact ⟨([], false), somb rfl (Ev.bind e1 (ifn Bool.false_ne_true (done rfl))), Ev.bind e2 (ifn Bool.false_ne_true (done rfl)), by simp⟩
  | true =>
    obtain ⟨r, f1, f2, f3⟩ := loops 0 (by omega) l (BodyV.laid (hv rfl)) [] (by simp)
    exact ⟨r, somb rfl (Ev.bind e1 (ifp (Eq.refl true) f1)), Ev.bind e2 (ifp (Eq.refl true) f2), by omega⟩
end Go.Proofs.Ytckhmeadflafaaa.PureBothStandingTurns
/-! What TurnBody says, in the program and in the reference alike. No conditions beyond those of the lemmas' own hypotheses. -/
namespace Go.Proofs.Ytckhmeadflafaaa.PureBothTurnBody
open Go.RowKit Go.Proofs.Ytckhmeadflafaaa.XFb Go.Proofs.Ytckhmeadflafaaa.Plain Go.Proofs.Ytckhmeadflafaaa.PureCells Go.Proofs.Ytckhmeadflafaaa.PureBody Go.Proofs.Ytckhmeadflafaaa.PurePut Go.Proofs.Ytckhmeadflafaaa.PureTurn Go.Proofs.YtckhmeadflafaaaW.PrintWords Go.Proofs.YtckhmeadflafaaaW.PrintLast Go.Proofs.YtckhmeadflafaaaW.PrintMore
set_option linter.unusedVariables false
theorem both (l : List Cl) (hn : l.length ≤ 1048576) (s : Int) : ∃ r : List Cl × Bool, Ev (fun k => spec_TurnBody.f k l s) r ∧ Ev (fun k => impl_TurnBody.f k l s) r ∧ r.1.length ≤ 1048576 := by
  obtain ⟨b, e1, e2, hv⟩ := isBody_ev l hn
  unfold spec_TurnBody.f impl_TurnBody.f
  cases b with
  | false => exact ⟨([], false), Ev.bind e1 (ifn Bool.false_ne_true (done rfl)), Ev.bind e2 (ifn Bool.false_ne_true (done rfl)), by simp⟩
  | true =>
    have v := hv rfl
    have n1 := v.n1
    have hsm : ∀ x ∈ l, Sm x := fun x hx => InR.sm (v.each x hx)
    by_cases h1 : s = 1
    · obtain ⟨f1, f2⟩ := turn_ev (Or.inl h1) l v.n0 (by omega) hsm
      exact ⟨(_, true), Ev.bind e1 (ifp (Eq.refl true) (ifp h1 (Ev.bind f1 (done rfl)))), Ev.bind e2 (ifp (Eq.refl true) (ifp h1 (Ev.bind f2 (done rfl)))), by show (pd (l.map (tb s)) (tb_pos s v.n0)).length ≤ 1048576; rw [pd_len, List.length_map]; omega⟩
    · by_cases h2 : s = -1
      · obtain ⟨f1, f2⟩ := turn_ev (Or.inr h2) l v.n0 (by omega) hsm
        exact ⟨(_, true), Ev.bind e1 (ifp (Eq.refl true) (ifn h1 (ifp h2 (Ev.bind f1 (done rfl))))), Ev.bind e2 (ifp (Eq.refl true) (ifn h1 (ifp h2 (Ev.bind f2 (done rfl))))), by show (pd (l.map (tb s)) (tb_pos s v.n0)).length ≤ 1048576; rw [pd_len, List.length_map]; omega⟩
      · exact ⟨([], false), Ev.bind e1 (ifp (Eq.refl true) (ifn h1 (ifn h2 (done rfl)))), Ev.bind e2 (ifp (Eq.refl true) (ifn h1 (ifn h2 (done rfl)))), by simp⟩
end Go.Proofs.Ytckhmeadflafaaa.PureBothTurnBody
/-! What PutDown says, in the program and in the reference alike. No conditions beyond those of the lemmas' own hypotheses. -/
namespace Go.Proofs.Ytckhmeadflafaaa.PureBothPutDown
open Go.RowKit Go.Proofs.Ytckhmeadflafaaa.XFb Go.Proofs.Ytckhmeadflafaaa.Plain Go.Proofs.Ytckhmeadflafaaa.PureCells Go.Proofs.Ytckhmeadflafaaa.PureBody Go.Proofs.Ytckhmeadflafaaa.PurePut Go.Proofs.YtckhmeadflafaaaW.PrintWords Go.Proofs.YtckhmeadflafaaaW.PrintLast Go.Proofs.YtckhmeadflafaaaW.PrintMore
set_option linter.unusedVariables false
def Near (x : Cl) : Prop := (-60 ≤ x.f0 ∧ x.f0 ≤ 60) ∧ -60 ≤ x.f1 ∧ x.f1 ≤ 60
theorem loops (l : List Cl) (h0 : 0 < l.length) (hn : l.length ≤ 12) : ∀ i, i ≤ l.length → (∀ j, (h : j < l.length) → j < i → Near l[j]) → ∃ r : List Cl × Bool, Ev (fun k => spec_PutDown.l0 k l (i : Int)) r ∧ Ev (fun k => impl_PutDown.l0 k l l (l.length : Int) (i : Int)) r ∧ r.1.length ≤ 1048576 ∧ (r.2 = true → Ev (fun k => impl_IsBody.f k r.1) true) := by
  refine downTo l.length ?_ ?_
  · intro h
    have hs : ∀ x ∈ l, Small x := by
      intro x hx
      obtain ⟨j, hj, rfl⟩ := List.getElem_of_mem hx
      obtain ⟨⟨a, b⟩, c, d⟩ := h j hj hj
      exact ⟨⟨by omega, by omega⟩, by omega, by omega⟩
    have f1 := l8Down_ev l h0 (by omega) hs
    have f2 := put_ev l h0 (by omega) hs
    have hp := pd_len l h0
    obtain ⟨b, g1, g2, _⟩ := isBody_ev (pd l h0) (by omega)
    cases b with
    | true =>
      refine ⟨(pd l h0, true), Ev.step (fun k => by simp only [spec_PutDown.l0]; exact rfl) (ifn (by omega) (Ev.bind f1 (Ev.bind g1 ?_))), Ev.step (fun k => by simp only [impl_PutDown.l0]; exact rfl) (ifn (by omega) (Ev.bind f2 (Ev.bind g2 ?_))), by show (pd l h0).length ≤ 1048576; omega, fun _ => g2⟩
      · exact ifp (Eq.refl true) (done rfl)
      · exact ifp (Eq.refl true) (done rfl)
    | false =>
      refine ⟨([], false), Ev.step (fun k => by simp only [spec_PutDown.l0]; exact rfl) (ifn (by omega) (Ev.bind f1 (Ev.bind g1 ?_))), Ev.step (fun k => by simp only [impl_PutDown.l0]; exact rfl) (ifn (by omega) (Ev.bind f2 (Ev.bind g2 ?_))), by simp, fun h => absurd h Bool.false_ne_true⟩
      · exact ifn Bool.false_ne_true (done rfl)
      · exact ifn Bool.false_ne_true (done rfl)
  · intro i hi ih h
    have hi0 : 0 ≤ (i : Int) := by omega
    have hil : (i : Int) < (l.length : Int) := by omega
    have hw : wrap64 ((i : Int) + 1) = ((i + 1 : Nat) : Int) := wrapS hi (by omega)
    by_cases c0 : -60 ≤ l[i].f0 ∧ l[i].f0 ≤ 60
    · by_cases c1 : -60 ≤ l[i].f1 ∧ l[i].f1 ≤ 60
      · obtain ⟨r, e1, e2, e3⟩ := ih (fun j hj hji => by
          by_cases e : j = i
          · subst e; exact ⟨c0, c1⟩
          · exact h j hj (by omega))
        refine ⟨r, Ev.step (fun k => by simp only [spec_PutDown.l0]; exact rfl) (ifp hil (ifp hi0 ?_)), Ev.step (fun k => by simp only [impl_PutDown.l0]; exact rfl) (ifp hil (ifp hi0 (ifp hil ?_))), e3⟩
        · rw [rdC hi, hw]
          exact somb (l1In_eq _ _ _) (ifp (decide_eq_true c0) (somb (l1In_eq _ _ _) (ifp (decide_eq_true c1) e1)))
        · rw [rdC hi, hw]
          exact somb (within_eq _ _ _) (ifp (decide_eq_true c0) (somb (within_eq _ _ _) (ifp (decide_eq_true c1) e2)))
      · have nf : ¬ (decide (-60 ≤ l[i].f1 ∧ l[i].f1 ≤ 60) = true) := by rw [decide_eq_false c1]; exact Bool.false_ne_true
        refine ⟨([], false), Ev.step (fun k => by simp only [spec_PutDown.l0]; exact rfl) (ifp hil (ifp hi0 ?_)), Ev.step (fun k => by simp only [impl_PutDown.l0]; exact rfl) (ifp hil (ifp hi0 (ifp hil ?_))), by simp, fun h => absurd h Bool.false_ne_true⟩
        · rw [rdC hi]
          exact somb (l1In_eq _ _ _) (ifp (decide_eq_true c0) (somb (l1In_eq _ _ _) (ifn nf (done rfl))))
        · rw [rdC hi]
          exact somb (within_eq _ _ _) (ifp (decide_eq_true c0) (somb (within_eq _ _ _) (ifn nf (done rfl))))
    · have nf : ¬ (decide (-60 ≤ l[i].f0 ∧ l[i].f0 ≤ 60) = true) := by rw [decide_eq_false c0]; exact Bool.false_ne_true
      refine ⟨([], false), Ev.step (fun k => by simp only [spec_PutDown.l0]; exact rfl) (ifp hil (ifp hi0 ?_)), Ev.step (fun k => by simp only [impl_PutDown.l0]; exact rfl) (ifp hil (ifp hi0 (ifp hil ?_))), by simp, fun h => absurd h Bool.false_ne_true⟩
      · rw [rdC hi]
        exact somb (l1In_eq _ _ _) (ifn nf (done rfl))
      · rw [rdC hi]
        exact somb (within_eq _ _ _) (ifn nf (done rfl))
theorem both (l : List Cl) (hn : l.length ≤ 1048576) : ∃ r : List Cl × Bool, Ev (fun k => spec_PutDown.f k l) r ∧ Ev (fun k => impl_PutDown.f k l) r ∧ r.1.length ≤ 1048576 ∧ (r.2 = true → Ev (fun k => impl_IsBody.f k r.1) true) := by
  unfold spec_PutDown.f impl_PutDown.f
  by_cases h : 1 ≤ (l.length : Int) ∧ (l.length : Int) ≤ 12
  · obtain ⟨r, e1, e2, e3⟩ := loops l (by omega) (by omega) 0 (Nat.zero_le _) (fun j hj h => absurd h (by omega))
    exact ⟨r, somb (l1In_eq _ _ _) (ifp (decide_eq_true h) e1), somb (within_eq _ _ _) (ifp (decide_eq_true h) e2), e3⟩
  · have nf : ¬ (decide (1 ≤ (l.length : Int) ∧ (l.length : Int) ≤ 12) = true) := by rw [decide_eq_false h]; exact Bool.false_ne_true
    exact ⟨([], false), somb (l1In_eq _ _ _) (ifn nf (done rfl)), somb (within_eq _ _ _) (ifn nf (done rfl)), by simp, fun h => absurd h Bool.false_ne_true⟩
end Go.Proofs.Ytckhmeadflafaaa.PureBothPutDown
namespace Go.Proofs.Ytckhmeadflafaaa.Pure
open Go.RowKit Go.Proofs.Ytckhmeadflafaaa.XFb Go.Proofs.Ytckhmeadflafaaa.Plain Go.Proofs.Ytckhmeadflafaaa.PureCells Go.Proofs.Ytckhmeadflafaaa.PureBody Go.Proofs.Ytckhmeadflafaaa.PurePut Go.Proofs.Ytckhmeadflafaaa.PureGround Go.Proofs.Ytckhmeadflafaaa.PureSide Go.Proofs.Ytckhmeadflafaaa.PureTurn Go.Proofs.Ytckhmeadflafaaa.PureShape Go.Proofs.Ytckhmeadflafaaa.PureTips Go.Proofs.Ytckhmeadflafaaa.PureRots Go.Proofs.Ytckhmeadflafaaa.PureRlaws Go.Proofs.Ytckhmeadflafaaa.PureFracs Go.Proofs.Ytckhmeadflafaaa.PureDraw Go.Proofs.Ytckhmeadflafaaa.PureDrawBody Go.Proofs.YtckhmeadflafaaaW.PrintWords Go.Proofs.YtckhmeadflafaaaW.PrintLast Go.Proofs.YtckhmeadflafaaaW.PrintMore
set_option linter.unusedVariables false
/-! ### what the functions say of a body -/
theorem side_f {l : List Cl} (b : IsB l) {s : Int} (h : Ev (fun k => impl_bodySide.f k l) s) : Ev (fun k => impl_BodySide.f k l) (s, true) := by
  unfold impl_BodySide.f
  refine Ev.bind b.ev.1 (ifp (Eq.refl true) (Ev.bind h ?_))
  exact done rfl
theorem side_no {l : List Cl} (h : Ev (fun k => impl_IsBody.f k l) false) : Ev (fun k => impl_BodySide.f k l) (0, false) := by
  unfold impl_BodySide.f
  exact Ev.bind h (ifn Bool.false_ne_true (done rfl))
theorem mirror_f {l : List Cl} (b : IsB l) : Ev (fun k => impl_MirrorBody.f k l) (mp mir l, true) := by
  have n1 := b.v.n1
  have hs : ∀ x ∈ l.map mir, Small x := PureBothMirrorBody.mir_small b.v.each
  have f2 := put_ev (l.map mir) (pos_map b.v.n0) (by rw [List.length_map]; omega) hs
  have g2 : Ev (fun k => impl_cellsBy_MirrorBody_1.f k l) (pd (l.map mir) (pos_map b.v.n0)) := PureBothMirrorBody.impl_loop l b.v.n1 b.v.each _ f2 0 (Nat.zero_le _) [] rfl
  rw [mp_eq mir b.v.n0]
  unfold impl_MirrorBody.f
  refine Ev.bind b.ev.1 (ifp (Eq.refl true) (Ev.bind g2 ?_))
  exact done rfl
theorem turn_yes {l : List Cl} (b : IsB l) {s : Int} (hs : Side s) : Ev (fun k => impl_TurnBody.f k l s) (mp (tb s) l, true) := by
  have t := turn_f hs b
  unfold impl_TurnBody.f
  refine Ev.bind b.ev.1 (ifp (Eq.refl true) ?_)
  by_cases h : s = 1
  · exact ifp h (Ev.bind t (done rfl))
  · have h2 : s = -1 := hs.resolve_left h
    exact ifn h (ifp h2 (Ev.bind t (done rfl)))
theorem turn_inv {l : List Cl} (hn : l.length ≤ 1048576) {s : Int} {r : List Cl × Bool} (h : Ev (fun k => impl_TurnBody.f k l s) r) (hr : r.2 = true) : IsB l ∧ Side s ∧ r.1 = mp (tb s) l := by
  obtain ⟨t, e1, e2, _⟩ := isBody_ev l hn
  cases t with
  | false =>
    have h2 : Ev (fun k => impl_TurnBody.f k l s) ([], false) := by
      unfold impl_TurnBody.f
      exact Ev.bind e2 (ifn Bool.false_ne_true (done rfl))
    rw [ev_fun h h2] at hr; exact absurd hr Bool.false_ne_true
  | true =>
    have b := isB_of hn e2
    by_cases hs : Side s
    · exact ⟨b, hs, by rw [ev_fun h (turn_yes b hs)]⟩
    · have h1 : ¬ s = 1 := fun e => hs (Or.inl e)
      have h3 : ¬ s = -1 := fun e => hs (Or.inr e)
      have h2 : Ev (fun k => impl_TurnBody.f k l s) ([], false) := by
        unfold impl_TurnBody.f
        exact Ev.bind e2 (ifp (Eq.refl true) (ifn h1 (ifn h3 (done rfl))))
      rw [ev_fun h h2] at hr; exact absurd hr Bool.false_ne_true
theorem ground_f {l : List Cl} (b : IsB l) {a c : Int} (h : Ev (fun k => impl_groundOf.f k l) (a, c)) : Ev (fun k => impl_GroundOf.f k l) (a, c, true) := by
  unfold impl_GroundOf.f
  refine Ev.bind b.ev.1 (ifp (Eq.refl true) (Ev.bind h ?_))
  exact done rfl
theorem centre_f {l : List Cl} (b : IsB l) : ∃ y : Int × Int, Ev (fun k => impl_BodyCentre.f k l) ((cut (ms l) (2 * (l.length : Int))).1, (cut (ms l) (2 * (l.length : Int))).2, y.1, y.2, true) := by
  have n0 := b.v.n0
  have n1 := b.v.n1
  have hm := ms_range b.v.each
  have e1 := ms_ev l n1 b.v.each
  obtain ⟨t, _, g2, t0, t1⟩ := PureBothBodyCentre.middle1_ev l n1 b.v.each
  have a2 := fraction_ev (a := ms l) (b := 2 * (l.length : Int)) hm.1 (by omega) (by omega) (by omega)
  have b2 := fraction_ev (a := t) (b := 2 * (l.length : Int)) t0 (by omega) (by omega) (by omega)
  have hw : wrap64 (2 * (l.length : Int)) = 2 * (l.length : Int) := w64 (by omega) (by omega)
  refine ⟨cut t (2 * (l.length : Int)), ?_⟩
  unfold impl_BodyCentre.f
  rw [hw]
  refine Ev.bind b.ev.1 (ifp (Eq.refl true) (Ev.bind e1 (Ev.bind a2 (Ev.bind g2 (Ev.bind b2 ?_)))))
  exact done rfl
/-- A body stands exactly if its centre is above its ground. -/
theorem centre_side {l : List Cl} (b : IsB l) {a c : Int} (g : Gr l a c) : (sd l a c == 0) = (decide ((cut (ms l) (2 * (l.length : Int))).1 ≥ a * (cut (ms l) (2 * (l.length : Int))).2) && decide ((cut (ms l) (2 * (l.length : Int))).1 ≤ c * (cut (ms l) (2 * (l.length : Int))).2)) ∧ wrap64 (a * (cut (ms l) (2 * (l.length : Int))).2) = a * (cut (ms l) (2 * (l.length : Int))).2 ∧ wrap64 (c * (cut (ms l) (2 * (l.length : Int))).2) = c * (cut (ms l) (2 * (l.length : Int))).2 := by
  have n0 := b.v.n0
  have n1 := b.v.n1
  have hm := ms_range b.v.each
  have hg := gd_pos (a := ms l) (b := 2 * (l.length : Int)) (by omega)
  obtain ⟨x, hx, _, hxa⟩ := g.e0
  obtain ⟨y, hy, _, hyb⟩ := g.e1
  obtain ⟨⟨x0, x1⟩, _⟩ := b.v.each x hx
  obtain ⟨⟨y0, y1⟩, _⟩ := b.v.each y hy
  obtain ⟨u, hu⟩ := gd_dvd_left (2 * (l.length : Int)) hm.1
  obtain ⟨v, hv⟩ := gd_dvd_right (ms l) (b := 2 * (l.length : Int)) (by omega)
  have e1 : (cut (ms l) (2 * (l.length : Int))).1 = u := by
    show ms l / gd (ms l) (2 * (l.length : Int)) = u
    rw [show ms l / gd (ms l) (2 * (l.length : Int)) = gd (ms l) (2 * (l.length : Int)) * u / gd (ms l) (2 * (l.length : Int)) from by rw [← hu]]
    exact Int.mul_ediv_cancel_left _ (by omega)
  have e2 : (cut (ms l) (2 * (l.length : Int))).2 = v := by
    show 2 * (l.length : Int) / gd (ms l) (2 * (l.length : Int)) = v
    rw [show 2 * (l.length : Int) / gd (ms l) (2 * (l.length : Int)) = gd (ms l) (2 * (l.length : Int)) * v / gd (ms l) (2 * (l.length : Int)) from by rw [← hv]]
    exact Int.mul_ediv_cancel_left _ (by omega)
  rw [e1, e2]
  have hsd : sd l a c = if ms l < a * (2 * (l.length : Int)) then -1 else if ms l > c * (2 * (l.length : Int)) then 1 else 0 := rfl
  generalize gd (ms l) (2 * (l.length : Int)) = G at *
  have hv0 : 0 ≤ v := by
    refine Int.le_of_mul_le_mul_left (a := G) ?_ (by omega)
    omega
  have hv24 : v ≤ 24 := by
    have : 1 * v ≤ G * v := Int.mul_le_mul_of_nonneg_right hg hv0
    omega
  have bd : ∀ t : Int, 0 ≤ t → t ≤ 13 → wrap64 (t * v) = t * v := by
    intro t h0 h1
    have h2 : 0 ≤ t * v := Int.mul_nonneg h0 hv0
    have h3 : t * v ≤ 13 * 24 := Int.mul_le_mul h1 hv24 hv0 (by omega)
    exact w64 (by omega) (by omega)
  refine ⟨?_, bd a (by omega) (by omega), bd c (by omega) (by omega)⟩
  have k1 : ms l < a * (2 * (l.length : Int)) ↔ u < a * v := by
    rw [hu, hv, Int.mul_left_comm]
    exact ⟨fun h => Int.lt_of_mul_lt_mul_left h (by omega), fun h => Int.mul_lt_mul_of_pos_left h (by omega)⟩
  have k2 : ms l > c * (2 * (l.length : Int)) ↔ u > c * v := by
    rw [hu, hv, Int.mul_left_comm]
    exact ⟨fun h => Int.lt_of_mul_lt_mul_left h (by omega), fun h => Int.mul_lt_mul_of_pos_left h (by omega)⟩
  rw [hsd]
  by_cases h1 : ms l < a * (2 * (l.length : Int))
  · rw [if_pos h1, decide_eq_false (by rw [k1] at h1; omega)]; rfl
  · rw [if_neg h1]
    by_cases h2 : ms l > c * (2 * (l.length : Int))
    · rw [if_pos h2, decide_eq_false (p := u ≤ c * v) (by rw [k2] at h2; omega), Bool.and_false]; rfl
    · rw [if_neg h2, decide_eq_true (by rw [k1] at h1; omega), decide_eq_true (by rw [k2] at h2; omega)]; rfl
/-! ### the walk through the ways to lie -/
theorem loop {l : List Cl} (b : IsB l) {s0 : Int} (h0 : Ev (fun k => impl_bodySide.f k l) s0) (tum : List Cl) (turns : Int) (four : Bool) (st : List Int) (hl : st.length ≤ 4) (hst : ∀ j : Nat, (j : Int) ∈ st ↔ j < 4 ∧ Ev (fun k => impl_bodySide.f k (way l j)) 0) (hf : four = true → ∃ j, j < 4 ∧ tum = way l j) (hz : s0 = 0 → four = true ∧ turns = 0) :
    ∀ i, i ≤ 4 → ∀ found : Bool, (found = true ↔ four = true ∧ ∃ j, j < i ∧ tum = way l j) → Ev (fun k => laws_FnBodies.l0 k l s0 tum turns four st (way l i) found (i : Int)) true := by
  have n1 := b.v.n1
  refine downTo 4 ?_ ?_
  · intro found hfound
    have hc := cells_refl l (by omega)
    have e : found = four := by
      cases four with
      | true => exact hfound.2 ⟨rfl, hf rfl⟩
      | false =>
        cases found with
        | false => rfl
        | true => exact absurd (hfound.1 rfl).1 Bool.false_ne_true
    rw [way_four b]
    refine Ev.step (fun k => by simp only [laws_FnBodies.l0]; exact rfl) (ifn (by omega) (Ev.bind hc (ifp (Eq.refl true) (ifp (c := (found == four) = true) (by rw [e]; simp) ?_))))
    by_cases hs : s0 = 0
    · obtain ⟨z1, z2⟩ := hz hs
      exact ifp hs (ifp z1 (done (by rw [z2]; rfl)))
    · exact ifn hs (done rfl)
  · intro i hi ih found hfound
    have bi := way_isB b i
    have ni := bi.v.n1
    obtain ⟨s, e, _⟩ := side3 bi
    have e1 := side_f bi e
    have e2 := turn_yes bi (Or.inl rfl : Side 1)
    obtain ⟨q, q1, q2⟩ := has_dec st (by omega) (i : Int)
    have hw : wrap64 ((i : Int) + 1) = ((i + 1 : Nat) : Int) := wrapS hi (by omega)
    have hq : q = (s == 0) := by
      cases hh : (s == 0) with
      | true =>
        have hs := eq_of_beq hh
        exact q2.2 ((hst i).2 ⟨hi, hs ▸ e⟩)
      | false =>
        cases q with
        | false => rfl
        | true =>
          have := ((hst i).1 (q2.1 rfl)).2
          rw [ev_fun e this] at hh
          exact absurd hh (by decide)
    have hne : ¬ ((q != (s == 0)) = true) := by rw [hq]; simp
    refine Ev.step (fun k => by simp only [laws_FnBodies.l0]; exact rfl) (ifp (by omega) (Ev.bind e1 (ifp (Eq.refl true) (Ev.bind q1 (ifn hne ?_)))))
    rw [hw]
    cases found with
    | true =>
      refine ifp (Eq.refl true) (Ev.bind e2 (ifp (Eq.refl true) ?_))
      refine ih true ⟨fun _ => ?_, fun _ => rfl⟩
      obtain ⟨h1, j, hj, h2⟩ := hfound.1 rfl
      exact ⟨h1, j, by omega, h2⟩
    | false =>
      refine ifn Bool.false_ne_true ?_
      cases four with
      | true =>
        obtain ⟨t, t1, t2⟩ := cells_dec (way l i) tum (by omega)
        refine ifp (Eq.refl true) (Ev.bind t1 (Ev.bind e2 (ifp (Eq.refl true) ?_)))
        refine ih t ?_
        rw [t2]
        constructor
        · intro h; exact ⟨rfl, i, by omega, h.symm⟩
        · rintro ⟨_, j, hj, h2⟩
          by_cases hji : j = i
          · subst hji; exact h2.symm
          · exact absurd (hfound.2 ⟨rfl, j, by omega, h2⟩) Bool.false_ne_true
      | false =>
        refine ifn Bool.false_ne_true (Ev.bind e2 (ifp (Eq.refl true) ?_))
        exact ih false ⟨fun h => absurd h Bool.false_ne_true, fun h => absurd h.1 Bool.false_ne_true⟩
theorem j2_ev {l : List Cl} (b : IsB l) {s0 : Int} (h0 : Ev (fun k => impl_bodySide.f k l) s0) (tum : List Cl) (turns : Int) (four : Bool) (st : List Int) (hl : st.length ≤ 4) (hst : ∀ j : Nat, (j : Int) ∈ st ↔ j < 4 ∧ Ev (fun k => impl_bodySide.f k (way l j)) 0) (hf : four = true → ∃ j, j < 4 ∧ tum = way l j) (hz : s0 = 0 → four = true ∧ turns = 0) : Ev (fun k => laws_FnBodies.j2 k l s0 (mp mir l) tum turns four st false) true := by
  have n1 := b.v.n1
  obtain ⟨s, e1, e2, e3⟩ := mir_side b
  have hs := ev_fun h0 e1
  subst hs
  have bm := mp_isB mir_iso b
  have e2' : Ev (fun k => impl_bodySide.f k (mp mir l)) (-s0) := by rw [mp_eq mir b.v.n0]; exact e2
  have f1 := side_f bm e2'
  have f2 := mirror_f bm
  have hmm : mp mir (mp mir l) = l := by
    rw [mp_comp mir_iso b]
    refine mp_id (fun x => ?_) b
    cases x
    simp only [Function.comp, mir]
    congr 1; omega
  rw [hmm] at f2
  have hc := cells_refl l (by omega)
  have hw : wrap64 (-s0) = -s0 := w64 (by rcases e3 with h | h | h <;> omega) (by rcases e3 with h | h | h <;> omega)
  refine Ev.step (fun k => by simp only [laws_FnBodies.j2]; exact rfl) (ifn Bool.false_ne_true (Ev.bind f1 (Ev.bind f2 (ifp (Eq.refl true) ?_))))
  refine ifp (Eq.refl true) (ifp hw.symm (Ev.bind hc (ifp (Eq.refl true) ?_)))
  exact loop b h0 tum turns four st hl hst hf hz 0 (by omega) false ⟨fun h => absurd h Bool.false_ne_true, fun ⟨_, j, hj, _⟩ => absurd hj (by omega)⟩
theorem FnBodies : laws_FnBodies.Pure := by
  intro L _ _ hb
  have hL := bytes_of hb
  refine Ev.rounds ?_
  have hbig : laws_rBig.f L = some (decide ((L.length : Int) > 65536)) := rfl
  obtain ⟨l, d0, hl⟩ := isBody_draw hL
  obtain ⟨c, way_, d1, hc⟩ := turnBody_draw hL
  obtain ⟨cells, d2, hcells⟩ := putDown_draw hL
  have d0' : Ev (fun k => spec_DrawBodySide.f k L) l := by unfold spec_DrawBodySide.f; exact Ev.bind d0 (done rfl)
  obtain ⟨t, t1, t2, _⟩ := isBody_ev l (by omega)
  obtain ⟨⟨q1, q2⟩, a1, a2⟩ := PureBothBodySide.both l (by omega)
  obtain ⟨⟨x0, x1, y0, y1, xk⟩, c1, c2⟩ := PureBothBodyCentre.both l (by omega)
  obtain ⟨⟨lo, hi, gk⟩, g1, g2⟩ := PureBothGroundOf.both l (by omega)
  obtain ⟨⟨mr, mk⟩, m1, m2, m3⟩ := PureBothMirrorBody.both l (by omega)
  obtain ⟨⟨tm, tn, tk⟩, u1, u2, u3⟩ := PureBothTumbleBody.both l (by omega)
  obtain ⟨⟨st, sk⟩, s1, s2, s3⟩ := PureBothStandingTurns.both l (by omega)
  obtain ⟨⟨td, xt⟩, v1, v2, v3⟩ := PureBothTurnBody.both c (by omega) way_
  obtain ⟨⟨dw, dk⟩, w1, w2, w3, w4⟩ := PureBothPutDown.both cells (by omega)
  have r1 := cells_refl mr m3
  have r2 := cells_refl tm (Nat.le_trans u3 (by omega))
  have r3 := ints_refl st s3
  have r4 := cells_refl td v3
  have r5 := cells_refl dw w3
  -- all of them say 'ok' exactly of a body
  have hok : q2 = t ∧ xk = t ∧ gk = t ∧ mk = t ∧ sk = t := by
    cases t with
    | false =>
      have z1 := ev_fun a2 (side_no t2)
      have z2 := ev_fun c2 (show Ev (fun k => impl_BodyCentre.f k l) (0, 0, 0, 0, false) from by unfold impl_BodyCentre.f; exact Ev.bind t2 (ifn Bool.false_ne_true (done rfl)))
      have z3 := ev_fun g2 (show Ev (fun k => impl_GroundOf.f k l) (0, 0, false) from by unfold impl_GroundOf.f; exact Ev.bind t2 (ifn Bool.false_ne_true (done rfl)))
      have z4 := ev_fun m2 (show Ev (fun k => impl_MirrorBody.f k l) ([], false) from by unfold impl_MirrorBody.f; exact Ev.bind t2 (ifn Bool.false_ne_true (done rfl)))
      have z5 := ev_fun s2 (show Ev (fun k => impl_StandingTurns.f k l) ([], false) from by unfold impl_StandingTurns.f; exact Ev.bind t2 (ifn Bool.false_ne_true (done rfl)))
      injection z1 with _ z1
      injection z2 with _ z2; injection z2 with _ z2; injection z2 with _ z2; injection z2 with _ z2
      injection z3 with _ z3; injection z3 with _ z3
      injection z4 with _ z4
      injection z5 with _ z5
      exact ⟨z1, z2, z3, z4, z5⟩
    | true =>
      have b := isB_of (by omega) t2
      obtain ⟨a, c', e1, g, e2⟩ := sd_ev l (BodyV.laid b.v)
      obtain ⟨y, ey⟩ := centre_f b
      obtain ⟨T, eT, _⟩ := stand_f b
      have z1 := ev_fun a2 (side_f b e1)
      have z2 := ev_fun c2 ey
      have z3 := ev_fun g2 (ground_f b e2)
      have z4 := ev_fun m2 (mirror_f b)
      have z5 := ev_fun s2 eT
      injection z1 with _ z1
      injection z2 with _ z2; injection z2 with _ z2; injection z2 with _ z2; injection z2 with _ z2
      injection z3 with _ z3; injection z3 with _ z3
      injection z4 with _ z4
      injection z5 with _ z5
      exact ⟨z1, z2, z3, z4, z5⟩
  obtain ⟨o1, o2, o3, o4, o5⟩ := hok
  subst o1; subst o2; subst o3; subst o4; subst o5
  -- what follows behind the comparisons
  have j1 : Ev (fun k => laws_FnBodies.j1 k l q1 sk lo hi mr tm tn tk st x0 x1) true := by
    cases sk with
    | false => exact Ev.step (fun k => by simp only [laws_FnBodies.j1]; exact rfl) (ifn Bool.false_ne_true (done rfl))
    | true =>
      have b := isB_of (by omega) t2
      obtain ⟨a, c', e1, g, e2⟩ := sd_ev l (BodyV.laid b.v)
      obtain ⟨y, ey⟩ := centre_f b
      obtain ⟨T, eT, hT, lT⟩ := stand_f b
      obtain ⟨R, eR, hR, hR0⟩ := tumble_f b
      have z1 := ev_fun a2 (side_f b e1)
      have z2 := ev_fun c2 ey
      have z3 := ev_fun g2 (ground_f b e2)
      have z4 := ev_fun m2 (mirror_f b)
      have z5 := ev_fun s2 eT
      have z6 := ev_fun u2 eR
      injection z1 with z1 _
      injection z2 with z21 z2; injection z2 with z22 _
      injection z3 with z31 z3; injection z3 with z32 _
      injection z4 with z4 _
      injection z5 with z5 _
      subst z6
      subst z1; subst z31; subst z32; subst z4; subst z5
      obtain ⟨k1, k2, k3⟩ := centre_side b g
      rw [← z21, ← z22] at k1
      rw [← z22] at k2 k3
      have hf : tk = true → ∃ j, j < 4 ∧ tm = way l j := fun h => by
        obtain ⟨j, hj, h1, _⟩ := hR h
        exact ⟨j, hj, h1⟩
      have hz : sd l lo hi = 0 → tk = true ∧ tn = 0 := fun h => by
        have h2 : (tn, tk) = (0, true) := hR0 (h ▸ e1)
        injection h2 with h3 h4
        exact ⟨h4, h3⟩
      have h2 := j2_ev b e1 tm tn tk st lT hT hf hz
      obtain ⟨q, hq1, hq2⟩ := has_dec st (by omega) 0
      have hq : q = (sd l lo hi == 0) := by
        have hT0 := hT 0
        cases hh : (sd l lo hi == 0) with
        | true =>
          have hs := eq_of_beq hh
          exact hq2.2 (hT0.2 ⟨by omega, hs ▸ e1⟩)
        | false =>
          cases q with
          | false => rfl
          | true =>
            have := (hT0.1 (hq2.1 rfl)).2
            rw [ev_fun e1 this] at hh
            exact absurd hh (by decide)
      have hne : ¬ ((q != (sd l lo hi == 0)) = true) := by rw [hq]; simp
      have hlen : tk = true → ((st.length : Int) == 0) = false := by
        intro h
        obtain ⟨j, hj, _, h1⟩ := hR h
        have := List.length_pos_of_mem ((hT j).2 ⟨hj, h1⟩)
        exact beq_eq_false_iff_ne.2 (by omega)
      have tail : Ev (fun k => (laws_rHas.f k st 0).bind fun t685 => (if (t685 != (sd l lo hi == 0)) = true then (none) else (if tk = true then (laws_FnBodies.j2 k l (sd l lo hi) (mp mir l) tm tn tk st ((st.length : Int) == 0)) else (laws_FnBodies.j2 k l (sd l lo hi) (mp mir l) tm tn tk st false)))) true := by
        refine Ev.bind hq1 (ifn hne ?_)
        cases tk with
        | true =>
          refine ifp (Eq.refl true) ?_
          rw [hlen rfl]; exact h2
        | false => exact ifn Bool.false_ne_true h2
      refine Ev.step (fun k => by simp only [laws_FnBodies.j1]; exact rfl) (ifp (Eq.refl true) ?_)
      rw [k2, k3]
      by_cases hge : x0 ≥ lo * x1
      · refine ifp hge (ifn ?_ tail)
        rw [k1, decide_eq_true hge, Bool.true_and]; simp
      · refine ifn hge (ifn ?_ tail)
        rw [k1, decide_eq_false hge]; simp
  have j0 : Ev (fun k => laws_FnBodies.j0 k l q1 sk lo hi mr tm tn tk st c way_ td xt false x0 x1) true := by
    refine Ev.step (fun k => by simp only [laws_FnBodies.j0]; exact rfl) (ifn Bool.false_ne_true ?_)
    cases xt with
    | false => exact ifn Bool.false_ne_true j1
    | true =>
      obtain ⟨bc, hs, htd⟩ := turn_inv (by omega) v2 rfl
      have htd : td = mp (tb way_) c := htd
      subst htd
      have hw : wrap64 (-way_) = -way_ := w64 (by rcases hs with h | h <;> omega) (by rcases hs with h | h <;> omega)
      have bt := mp_isB (tb_iso hs) bc
      have e := turn_yes bt (side_neg hs)
      have hback : mp (tb (-way_)) (mp (tb way_) c) = c := by
        rw [mp_comp (tb_iso (side_neg hs)) bc]
        exact mp_id (fun x => tb_back hs x) bc
      rw [hback] at e
      have hcc := cells_refl c (by omega)
      refine ifp (Eq.refl true) ?_
      rw [hw]
      refine Ev.bind e (ifp (Eq.refl true) (Ev.bind hcc ?_))
      exact ifp (Eq.refl true) j1
  unfold laws_FnBodies.f
  refine somb hbig (ifc (fun _ => done rfl) fun _ => ?_)
  refine Ev.bind d0' (Ev.bind a2 (Ev.bind a1 (ifp rfl (ifn (by simp) (Ev.bind t2 (ifn (by simp) ?_))))))
  refine Ev.bind c2 (Ev.bind c1 (ifn (by simp) (ifn (by simp) (ifn (by simp) (ifn (by simp) ?_)))))
  refine Ev.bind g2 (Ev.bind g1 (ifp rfl (ifp rfl (ifn (by simp) (ifn (by simp) ?_)))))
  refine Ev.bind m2 (Ev.bind m1 (ifn (by simp) (ifn (by simp) (Ev.bind r1 (ifp (Eq.refl true) ?_)))))
  refine Ev.bind u2 (Ev.bind u1 (ifp rfl (ifn (by simp) (Ev.bind r2 (ifp (Eq.refl true) ?_)))))
  refine Ev.bind s2 (Ev.bind s1 (ifn (by simp) (ifn (by simp) (Ev.bind r3 (ifp (Eq.refl true) ?_)))))
  refine Ev.bind d1 (Ev.bind v2 (Ev.bind v1 (ifn (by simp) (Ev.bind r4 (ifp (Eq.refl true) ?_)))))
  refine Ev.bind d2 (Ev.bind w2 (Ev.bind w1 (ifn (by simp) (Ev.bind r5 (ifp (Eq.refl true) ?_)))))
  cases dk with
  | false => exact ifn Bool.false_ne_true j0
  | true =>
    have hbd := w4 rfl
    refine ifp (Eq.refl true) (Ev.bind hbd ?_)
    exact j0
end Go.Proofs.Ytckhmeadflafaaa.Pure
