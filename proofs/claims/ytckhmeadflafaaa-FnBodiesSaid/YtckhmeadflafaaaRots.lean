/- Turns of a body: there and back, four of them, and those that stand. No conditions beyond those of the lemmas' own hypotheses. -/
import Derived.Test.YtckhmeadflafaaaTips
import Derived.Test.YtckhmeadflafaaaTurn
import Derived.Test.YtckhmeadflafaaaXFbx22
import Derived.Test.YtckhmeadflafaaaXFbx25
namespace Go.Proofs.Ytckhmeadflafaaa.PureRots
open Go.RowKit Go.Proofs.Ytckhmeadflafaaa.XFb Go.Proofs.Ytckhmeadflafaaa.Plain Go.Proofs.Ytckhmeadflafaaa.PureCells Go.Proofs.Ytckhmeadflafaaa.PureBody Go.Proofs.Ytckhmeadflafaaa.PurePut Go.Proofs.Ytckhmeadflafaaa.PureGround Go.Proofs.Ytckhmeadflafaaa.PureSide Go.Proofs.Ytckhmeadflafaaa.PureTurn Go.Proofs.Ytckhmeadflafaaa.PureShape Go.Proofs.Ytckhmeadflafaaa.PureTips Go.Proofs.YtckhmeadflafaaaW.PrintWords Go.Proofs.YtckhmeadflafaaaW.PrintLast Go.Proofs.YtckhmeadflafaaaW.PrintMore
set_option linter.unusedVariables false
theorem tb_iso {s : Int} (hs : Side s) : Iso (tb s) := by
  have e : ∀ u : Int, ab (-u) = ab u := by intro u; unfold ab; split <;> split <;> omega
  rcases hs with rfl | rfl
  · refine ⟨?_, ?_, ?_, ?_⟩
    · intro x y
      unfold nr tb
      rw [show (1 : Int) * x.f1 - 1 * y.f1 = x.f1 - y.f1 from by omega, show (-1 : Int) * x.f0 - -1 * y.f0 = -(x.f0 - y.f0) from by omega, e, Int.add_comm]
    · intro x y h
      injection h with h1 h2
      cases x; cases y
      simp only at h1 h2
      congr 1 <;> omega
    · intro A B
      refine ⟨B, -A, fun x => ?_⟩
      unfold tb sh
      congr 1
      · show 1 * (x.f1 - B) = 1 * x.f1 - B; omega
      · show -1 * (x.f0 - A) = -1 * x.f0 - -A; omega
    · rintro x ⟨⟨a, b⟩, c, d⟩
      refine ⟨⟨?_, ?_⟩, ?_, ?_⟩ <;> simp only [tb] <;> omega
  · refine ⟨?_, ?_, ?_, ?_⟩
    · intro x y
      unfold nr tb
      rw [show (-1 : Int) * x.f1 - -1 * y.f1 = -(x.f1 - y.f1) from by omega, show (- -1 : Int) * x.f0 - - -1 * y.f0 = x.f0 - y.f0 from by omega, e, Int.add_comm]
    · intro x y h
      injection h with h1 h2
      cases x; cases y
      simp only at h1 h2
      congr 1 <;> omega
    · intro A B
      refine ⟨-B, A, fun x => ?_⟩
      unfold tb sh
      congr 1
      · show -1 * (x.f1 - B) = -1 * x.f1 - -B; omega
      · show - -1 * (x.f0 - A) = - -1 * x.f0 - A; omega
    · rintro x ⟨⟨a, b⟩, c, d⟩
      refine ⟨⟨?_, ?_⟩, ?_, ?_⟩ <;> simp only [tb] <;> omega
theorem side_neg {s : Int} (hs : Side s) : Side (-s) := by
  rcases hs with rfl | rfl
  · exact Or.inr rfl
  · exact Or.inl (by omega)
theorem tb_back {s : Int} (hs : Side s) (x : Cl) : tb (-s) (tb s x) = x := by
  cases x
  rcases hs with rfl | rfl <;> (unfold tb; congr 1 <;> (simp only; omega))
/-- A list mapped and put down. -/
def mp (f : Cl → Cl) (l : List Cl) : List Cl := if h : 0 < l.length then pd (l.map f) (pos_map h) else []
theorem mp_eq (f : Cl → Cl) {l : List Cl} (h : 0 < l.length) : mp f l = pd (l.map f) (pos_map h) := dif_pos h
theorem mp_isB {f : Cl → Cl} (hf : Iso f) {l : List Cl} (b : IsB l) : IsB (mp f l) := by
  rw [mp_eq f b.v.n0]; exact hf.body b
theorem mp_comp {f g : Cl → Cl} (hg : Iso g) {l : List Cl} (b : IsB l) : mp g (mp f l) = mp (g ∘ f) l := by
  rw [mp_eq f b.v.n0, mp_eq g (pd_pos (pos_map b.v.n0)), mp_eq (g ∘ f) b.v.n0]
  exact hg.comp b
theorem mp_id {f : Cl → Cl} (h : ∀ x, f x = x) {l : List Cl} (b : IsB l) : mp f l = l := by
  have e : l.map f = l := by
    have : f = id := by funext x; exact h x
    rw [this, List.map_id]
  rw [mp_eq f b.v.n0, pd_of_perm (by rw [e]) _ b.v.n0]
  exact pd_body b.v
theorem mp_len (f : Cl → Cl) (l : List Cl) : (mp f l).length = l.length := by
  unfold mp
  split
  · rw [pd_len, List.length_map]
  · simp only [List.length_nil]; omega
theorem turn_f {s : Int} (hs : Side s) {l : List Cl} (b : IsB l) : Ev (fun k => impl_turnBody.f k l s) (mp (tb s) l) := by
  rw [mp_eq (tb s) b.v.n0]
  exact (turn_ev hs l b.v.n0 (by have := b.v.n1; omega) (fun x hx => InR.sm (b.v.each x hx))).2
/-- The ways of a body to lie. -/
def way (l : List Cl) : Nat → List Cl
  | 0 => l
  | n + 1 => mp (tb 1) (way l n)
theorem way_isB {l : List Cl} (b : IsB l) : ∀ n, IsB (way l n) := by
  intro n
  induction n with
  | zero => exact b
  | succ n ih => exact mp_isB (tb_iso (Or.inl rfl)) ih
theorem way_four {l : List Cl} (b : IsB l) : way l 4 = l := by
  have i1 : Iso (tb 1) := tb_iso (Or.inl rfl)
  show mp (tb 1) (mp (tb 1) (mp (tb 1) (mp (tb 1) l))) = l
  rw [mp_comp i1 b, mp_comp i1 b, mp_comp i1 b]
  refine mp_id (fun x => ?_) b
  cases x
  simp only [Function.comp, tb]
  congr 1 <;> omega
theorem left_of {l : List Cl} (b : IsB l) (n : Nat) : mp (tb (-1)) (way l (n + 1)) = way l n := by
  show mp (tb (-1)) (mp (tb 1) (way l n)) = way l n
  rw [mp_comp (tb_iso (Or.inr rfl)) (way_isB b n)]
  exact mp_id (fun x => tb_back (Or.inl rfl) x) (way_isB b n)
theorem way_turn {l : List Cl} (b : IsB l) {s : Int} (hs : Side s) {j : Nat} (hj : j < 4) : ∃ j', j' < 4 ∧ mp (tb s) (way l j) = way l j' := by
  rcases hs with rfl | rfl
  · by_cases h : j = 3
    · subst h; exact ⟨0, by omega, way_four b⟩
    · exact ⟨j + 1, by omega, rfl⟩
  · by_cases h : j = 0
    · subst h
      refine ⟨3, by omega, ?_⟩
      have e : way l 0 = way l 4 := (way_four b).symm
      rw [e]; exact left_of b 3
    · obtain ⟨i, rfl⟩ : ∃ i, j = i + 1 := ⟨j - 1, by omega⟩
      exact ⟨i, by omega, left_of b i⟩
theorem side3 {l : List Cl} (b : IsB l) : ∃ s, Ev (fun k => impl_bodySide.f k l) s ∧ (s = 0 ∨ Side s) := by
  obtain ⟨s, e, _, h⟩ := mir_side b
  exact ⟨s, e, h⟩
/-- Tumbling ends on one of the ways to lie, if it ends. -/
theorem tumble_l0 {l : List Cl} (b : IsB l) : ∀ i : Nat, i ≤ 4 → ∀ j, j < 4 → ∃ r : List Cl × Int × Bool, Ev (fun k => impl_TumbleBody.l0 k (way l j) (i : Int)) r ∧ (r.2.2 = true → ∃ j', j' < 4 ∧ r.1 = way l j' ∧ Ev (fun k => impl_bodySide.f k (way l j')) 0) := by
  refine downTo 4 ?_ ?_
  · intro j hj
    obtain ⟨s, e, hs⟩ := side3 (way_isB b j)
    by_cases h : s = 0
    · exact ⟨(way l j, 4, true), Ev.step (fun k => by simp only [impl_TumbleBody.l0]; exact rfl) (ifp (by omega) (Ev.bind e (ifp h (done rfl)))), fun _ => ⟨j, hj, rfl, h ▸ e⟩⟩
    · have t := turn_f (hs.resolve_left h) (way_isB b j)
      refine ⟨([], 0, false), Ev.step (fun k => by simp only [impl_TumbleBody.l0]; exact rfl) (ifp (by omega) (Ev.bind e (ifn h (Ev.bind t ?_)))), fun h => absurd h Bool.false_ne_true⟩
      have hw : wrap64 (((4 : Nat) : Int) + 1) = 5 := by rw [w64 (by omega) (by omega)]; rfl
      rw [hw]
      exact Ev.step (fun k => by simp only [impl_TumbleBody.l0]; exact rfl) (ifn (by omega) (done rfl))
  · intro i hi ih j hj
    obtain ⟨s, e, hs⟩ := side3 (way_isB b j)
    have hi5 : (i : Int) < 5 := by omega
    by_cases h : s = 0
    · exact ⟨(way l j, (i : Int), true), Ev.step (fun k => by simp only [impl_TumbleBody.l0]; exact rfl) (ifp hi5 (Ev.bind e (ifp h (done rfl)))), fun _ => ⟨j, hj, rfl, h ▸ e⟩⟩
    · have t := turn_f (hs.resolve_left h) (way_isB b j)
      obtain ⟨j', hj', ej⟩ := way_turn b (hs.resolve_left h) hj
      rw [ej] at t
      obtain ⟨r, e1, e2⟩ := ih j' hj'
      have hw : wrap64 ((i : Int) + 1) = ((i + 1 : Nat) : Int) := wrapS hi (by omega)
      rw [← hw] at e1
      exact ⟨r, Ev.step (fun k => by simp only [impl_TumbleBody.l0]; exact rfl) (ifp hi5 (Ev.bind e (ifn h (Ev.bind t e1)))), e2⟩
theorem tumble_f {l : List Cl} (b : IsB l) : ∃ r : List Cl × Int × Bool, Ev (fun k => impl_TumbleBody.f k l) r ∧ (r.2.2 = true → ∃ j', j' < 4 ∧ r.1 = way l j' ∧ Ev (fun k => impl_bodySide.f k (way l j')) 0) ∧ (Ev (fun k => impl_bodySide.f k l) 0 → r.2 = (0, true)) := by
  have n1 := b.v.n1
  obtain ⟨r, e1, e2⟩ := tumble_l0 b 0 (by omega) 0 (by omega)
  have hcl : slices_Clone.f l = some l := by unfold slices_Clone.f; rw [if_pos (by omega)]
  refine ⟨r, ?_, e2, fun h => ?_⟩
  · unfold impl_TumbleBody.f
    exact Ev.bind b.ev.1 (ifp (Eq.refl true) (somb hcl e1))
  · have e3 : Ev (fun k => impl_TumbleBody.l0 k (way l 0) ((0 : Nat) : Int)) (l, 0, true) := Ev.step (fun k => by simp only [impl_TumbleBody.l0]; exact rfl) (ifp (by omega) (Ev.bind h (ifp rfl (done rfl))))
    rw [ev_fun e1 e3]
/-- The turns behind which a body stands. -/
theorem stand_l0 {l : List Cl} (b : IsB l) : ∀ i : Nat, i ≤ 4 → ∀ acc : List Int, acc.length ≤ i → ∃ T : List Int, Ev (fun k => impl_StandingTurns.l0 k acc (way l i) (i : Int)) (acc ++ T, true) ∧ (∀ j : Nat, (j : Int) ∈ T ↔ i ≤ j ∧ j < 4 ∧ Ev (fun k => impl_bodySide.f k (way l j)) 0) ∧ T.length + i ≤ 4 := by
  refine downTo 4 ?_ ?_
  · intro acc _
    refine ⟨[], Ev.step (fun k => by simp only [impl_StandingTurns.l0]; exact rfl) (ifn (by omega) (done (by rw [List.append_nil]))), fun j => ?_, by simp⟩
    exact ⟨fun h => absurd h List.not_mem_nil, fun h => absurd h.2.1 (by omega)⟩
  · intro i hi ih acc ha
    obtain ⟨s, e, hs⟩ := side3 (way_isB b i)
    have t := turn_f (Or.inl rfl : Side 1) (way_isB b i)
    have hi4 : (i : Int) < 4 := by omega
    have hal : acc.length < 17592186044416 := by omega
    have hw : wrap64 ((i : Int) + 1) = ((i + 1 : Nat) : Int) := wrapS hi (by omega)
    by_cases h : s = 0
    · obtain ⟨T, e1, e2, e3⟩ := ih (acc ++ [(i : Int)]) (by rw [List.length_append, List.length_singleton]; omega)
      rw [← hw, List.append_assoc] at e1
      refine ⟨(i : Int) :: T, Ev.step (fun k => by simp only [impl_StandingTurns.l0]; exact rfl) (ifp hi4 (Ev.bind e (ifp h (ifp hal (Ev.bind t e1))))), fun j => ?_, by rw [List.length_cons]; omega⟩
      rw [List.mem_cons, e2]
      constructor
      · rintro (hj | ⟨h1, h2, h3⟩)
        · have : j = i := by omega
          subst this
          exact ⟨Nat.le_refl _, hi, h ▸ e⟩
        · exact ⟨by omega, h2, h3⟩
      · rintro ⟨h1, h2, h3⟩
        by_cases hj : j = i
        · exact Or.inl (by omega)
        · exact Or.inr ⟨by omega, h2, h3⟩
    · obtain ⟨T, e1, e2, e3⟩ := ih acc (by omega)
      rw [← hw] at e1
      refine ⟨T, Ev.step (fun k => by simp only [impl_StandingTurns.l0]; exact rfl) (ifp hi4 (Ev.bind e (ifn h (Ev.bind t e1)))), fun j => ?_, by omega⟩
      rw [e2]
      constructor
      · rintro ⟨h1, h2, h3⟩; exact ⟨by omega, h2, h3⟩
      · rintro ⟨h1, h2, h3⟩
        refine ⟨?_, h2, h3⟩
        by_cases hj : j = i
        · subst hj; exact absurd (ev_fun e h3) h
        · omega
theorem stand_f {l : List Cl} (b : IsB l) : ∃ T : List Int, Ev (fun k => impl_StandingTurns.f k l) (T, true) ∧ (∀ j : Nat, (j : Int) ∈ T ↔ j < 4 ∧ Ev (fun k => impl_bodySide.f k (way l j)) 0) ∧ T.length ≤ 4 := by
  obtain ⟨T, e1, e2, e3⟩ := stand_l0 b 0 (by omega) [] (by simp)
  refine ⟨T, ?_, fun j => ?_, by omega⟩
  · unfold impl_StandingTurns.f
    exact Ev.bind b.ev.1 (ifp (Eq.refl true) e1)
  · rw [e2]
    exact ⟨fun h => h.2, fun h => ⟨Nat.zero_le _, h⟩⟩
end Go.Proofs.Ytckhmeadflafaaa.PureRots
