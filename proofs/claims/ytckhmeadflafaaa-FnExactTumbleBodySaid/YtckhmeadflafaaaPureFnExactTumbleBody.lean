/- The plain law of FnExactTumbleBody: the program and the reference tumble a body alike. No conditions. -/
import Derived.Test.YtckhmeadflafaaaStatFnExactTumbleBody
import Derived.Test.YtckhmeadflafaaaLaid
import Derived.Test.YtckhmeadflafaaaSide
import Derived.Test.YtckhmeadflafaaaMarkCells
namespace Go.Proofs.Ytckhmeadflafaaa.fnExactTumbleBody
open Go.RowKit Go.Proofs.Ytckhmeadflafaaa.XTu Go.Proofs.Ytckhmeadflafaaa.Plain Go.Proofs.Ytckhmeadflafaaa.PureCells Go.Proofs.Ytckhmeadflafaaa.PureBody Go.Proofs.Ytckhmeadflafaaa.PureGround Go.Proofs.Ytckhmeadflafaaa.PurePut Go.Proofs.Ytckhmeadflafaaa.PureTurn Go.Proofs.Ytckhmeadflafaaa.PureLaid Go.Proofs.Ytckhmeadflafaaa.PureSide Go.Proofs.Ytckhmeadflafaaa.PureMarkCells Go.Proofs.YtckhmeadflafaaaW.PrintWords Go.Proofs.YtckhmeadflafaaaW.PrintLast Go.Proofs.YtckhmeadflafaaaW.PrintMore
set_option linter.unusedVariables false
theorem side_val (l : List Cl) (v : LaidV l) : ∃ s, (s = 0 ∨ Side s) ∧ Ev (fun k => spec_l8Side.f k l) s ∧ Ev (fun k => impl_bodySide.f k l) s := by
  obtain ⟨s, e1, e2⟩ := side_ev l v
  refine ⟨s, ?_, e1, e2⟩
  obtain ⟨a, b, f1, f2, _⟩ := ground_ev l v
  obtain ⟨m, g1, g2, _⟩ := middle0_ev l v.n1 v.each
  have key : ∃ s', (s' = 0 ∨ Side s') ∧ Ev (fun k => impl_bodySide.f k l) s' := by
    unfold impl_bodySide.f
    by_cases c1 : m < wrap64 (a * wrap64 (2 * (l.length : Int)))
    · exact ⟨-1, Or.inr (Or.inr rfl), Ev.bind f2 (Ev.bind g2 (ifp c1 (done rfl)))⟩
    · by_cases c2 : m > wrap64 (b * wrap64 (2 * (l.length : Int)))
      · exact ⟨1, Or.inr (Or.inl rfl), Ev.bind f2 (Ev.bind g2 (ifn c1 (ifp c2 (done rfl))))⟩
      · exact ⟨0, Or.inl rfl, Ev.bind f2 (Ev.bind g2 (ifn c1 (ifn c2 (done rfl))))⟩
  obtain ⟨s', h, e3⟩ := key
  rw [ev_fun e2 e3]; exact h
theorem pd_body {l : List Cl} (v : BodyV l) : pd l v.n0 = l := by
  unfold pd
  rw [v.lw0 v.n0, v.dn0 v.n0]
  have e : l.map (sh 0 0) = l := by
    have : sh 0 0 = id := by funext x; simp [sh]
    rw [this, List.map_id]
  rw [e]
  obtain ⟨s1, s2⟩ := sortC_spec l
  refine (s2.eq_of_pairwise (fun a b _ _ h k => le_antisymm h k) s1 ?_)
  rw [List.pairwise_iff_getElem]
  have key : ∀ d i, (h : i + d < l.length) → Le l[i] l[i + d] := by
    intro d
    induction d with
    | zero => intro i h; unfold Le; rw [← Bool.not_eq_true, bef_iff]; simp
    | succ d ih =>
      intro i h
      have h1 := ih i (by omega)
      have h2 := le_of_bef (v.sorted (i + (d + 1)) h (by omega))
      have e : l[i + (d + 1) - 1]'(by omega) = l[i + d]'(by omega) := by congr 1
      rw [e] at h2
      exact le_trans h1 h2
  intro i j hi hj hij
  obtain ⟨d, rfl⟩ : ∃ d, j = i + d := ⟨j - i, by omega⟩
  exact key d i hj
theorem loops : ∀ i : Nat, i ≤ 4 → ∀ (l : List Cl), LaidV l → ∃ r : List Cl × Int × Bool, Ev (fun k => spec_TumbleBody.l0 k l (i : Int)) r ∧ Ev (fun k => impl_TumbleBody.l0 k l (i : Int)) r ∧ r.1.length ≤ 12 := by
  refine downTo 4 ?_ ?_
  · intro l v
    obtain ⟨s, hs, s1, s2⟩ := side_val l v
    obtain ⟨t1, t2⟩ : True ∧ True := ⟨trivial, trivial⟩
    by_cases h : s = 0
    · refine ⟨(l, 4, true), Ev.step (fun k => by simp only [spec_TumbleBody.l0]; exact rfl) (Ev.bind s1 (ifp h ?_)), Ev.step (fun k => by simp only [impl_TumbleBody.l0]; exact rfl) (ifp (by omega) (Ev.bind s2 (ifp h (done rfl)))), v.n1⟩
      exact Ev.step (fun k => by simp only [spec_TumbleBody.j1]; exact rfl) (ifn Bool.false_ne_true (Ev.bind s1 (ifp h (done rfl))))
    · have hd : Side s := hs.resolve_left h
      obtain ⟨u1, u2⟩ := turn_ev hd l v.n0 (by have := v.n1; omega) (LaidV.sm v)
      refine ⟨([], 0, false), Ev.step (fun k => by simp only [spec_TumbleBody.l0]; exact rfl) (Ev.bind s1 (ifn h ?_)), Ev.step (fun k => by simp only [impl_TumbleBody.l0]; exact rfl) (ifp (by omega) (Ev.bind s2 (ifn h (Ev.bind u2 ?_)))), by simp⟩
      · rw [decide_eq_false (by omega)]
        exact Ev.step (fun k => by simp only [spec_TumbleBody.j1]; exact rfl) (ifn Bool.false_ne_true (Ev.bind s1 (ifn h (done rfl))))
      · have hw : wrap64 (((4 : Nat) : Int) + 1) = 5 := by rw [w64 (by omega) (by omega)]; rfl
        rw [hw]
        exact Ev.step (fun k => by simp only [impl_TumbleBody.l0]; exact rfl) (ifn (by omega) (done rfl))
  · intro i hi ih l v
    obtain ⟨s, hs, s1, s2⟩ := side_val l v
    have hi5 : (i : Int) < 5 := by omega
    by_cases h : s = 0
    · refine ⟨(l, (i : Int), true), Ev.step (fun k => by simp only [spec_TumbleBody.l0]; exact rfl) (Ev.bind s1 (ifp h ?_)), Ev.step (fun k => by simp only [impl_TumbleBody.l0]; exact rfl) (ifp hi5 (Ev.bind s2 (ifp h (done rfl)))), v.n1⟩
      exact Ev.step (fun k => by simp only [spec_TumbleBody.j1]; exact rfl) (ifn Bool.false_ne_true (Ev.bind s1 (ifp h (done rfl))))
    · have hd : Side s := hs.resolve_left h
      obtain ⟨u1, u2⟩ := turn_ev hd l v.n0 (by have := v.n1; omega) (LaidV.sm v)
      obtain ⟨r, e1, e2, e3⟩ := ih _ (turn_laid hd v)
      have hw : wrap64 ((i : Int) + 1) = ((i + 1 : Nat) : Int) := wrapS hi (by omega)
      rw [← hw] at e1 e2
      refine ⟨r, Ev.step (fun k => by simp only [spec_TumbleBody.l0]; exact rfl) (Ev.bind s1 (ifn h ?_)), Ev.step (fun k => by simp only [impl_TumbleBody.l0]; exact rfl) (ifp hi5 (Ev.bind s2 (ifn h (Ev.bind u2 e2)))), e3⟩
      rw [decide_eq_true (show (i : Int) < 4 by omega)]
      exact Ev.step (fun k => by simp only [spec_TumbleBody.j1]; exact rfl) (ifp (Eq.refl true) (Ev.bind s1 (Ev.bind u1 e1)))
theorem both (l : List Cl) (hn : l.length ≤ 1048576) : ∃ r : List Cl × Int × Bool, Ev (fun k => spec_TumbleBody.f k l) r ∧ Ev (fun k => impl_TumbleBody.f k l) r ∧ r.1.length ≤ 12 := by
  obtain ⟨b, e1, e2, hv⟩ := isBody_ev l hn
  unfold spec_TumbleBody.f impl_TumbleBody.f
  cases b with
  | false => exact ⟨([], 0, false), Ev.bind e1 (ifn Bool.false_ne_true (done rfl)), Ev.bind e2 (ifn Bool.false_ne_true (done rfl)), by simp⟩
  | true =>
    have v := hv rfl
    obtain ⟨r, f1, f2, f3⟩ := loops 0 (by omega) l (BodyV.laid v)
    have d := l8Down_ev l v.n0 (by have := v.n1; omega) (fun x hx => (v.each x hx).small)
    rw [pd_body v] at d
    have hcl : slices_Clone.f l = some l := by unfold slices_Clone.f; rw [if_pos (by have := v.n1; omega)]
    exact ⟨r, Ev.bind e1 (ifp (Eq.refl true) (Ev.bind d f1)), Ev.bind e2 (ifp (Eq.refl true) (somb hcl f2)), f3⟩
theorem pure : Pure := by
  intro l hl _
  obtain ⟨t, ht, hlen⟩ := szIntA2S_eq l (by omega)
  refine Ev.rounds ?_
  unfold laws_FnExactTumbleBody.f
  refine somb ht (ifc (fun _ => done rfl) fun hneg => ?_)
  have hm := hlen hneg
  have hto := toIntA2S_ev l (by omega)
  have heq := eqIntA2S_ev l (by omega)
  obtain ⟨r, e1, e2, hr⟩ := both l hm
  have q := eqIntA2S_ev r.1 (by omega)
  obtain ⟨R1, m1, _⟩ := markIntA2S_ev l hm 1 (by omega) (by omega)
  obtain ⟨R3, m3, m3l, m3r⟩ := markIntA2S_ev r.1 (by omega) 1 (by omega) (by omega)
  have h3 := heldIntA2S_ev R3 r.1.length m3l (by omega) 1 (by omega) (by omega) m3r
  have hn1 : ¬ (1 + ((2 * r.1.length : Nat) : Int)) < 0 := by omega
  have hn2 : ¬ (1 + ((2 * l.length : Nat) : Int)) < 0 := by omega
  have hne : ¬ ((r.2.2 != r.2.2) = true) := by simp
  refine Ev.bind hto (Ev.bind e1 (Ev.bind hto (Ev.bind e2 (Ev.bind q (ifp (Eq.refl true) (ifp rfl (ifn hne (Ev.bind hto (Ev.bind heq (ifp (Eq.refl true) (Ev.bind m1 (ifn hn2 ?_))))))))))))
  refine Ev.bind q (ifp (Eq.refl true) (Ev.bind m3 (Ev.bind h3 (ifn hn1 (ifp rfl (Ev.bind hto (Ev.bind e2 (Ev.bind q (ifp (Eq.refl true) ?_)))))))))
  exact ifp rfl (ifn hne (Ev.bind h3 (ifn hn1 (ifp rfl (done rfl)))))
end Go.Proofs.Ytckhmeadflafaaa.fnExactTumbleBody
