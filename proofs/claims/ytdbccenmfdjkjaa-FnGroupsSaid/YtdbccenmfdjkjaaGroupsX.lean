/- What is left of a row without a group, and what a group weighs: for the laws on groups. No conditions beyond those of the lemmas' own hypotheses. -/
import Derived.Test.YtdbccenmfdjkjaaSplit
import Derived.Test.YtdbccenmfdjkjaaDrawRow
import Derived.Test.YtdbccenmfdjkjaaXFgx20
import Derived.Test.YtdbccenmfdjkjaaXFgx19
import Derived.Test.YtdbccenmfdjkjaaXFgx4
import Derived.Test.YtdbccenmfdjkjaaXFgx14
import Derived.Test.YtdbccenmfdjkjaaXFgx21
namespace Go.Proofs.Ytdbccenmfdjkjaa.PureGroupsX
open Go.RowKit Go.Proofs.Ytdbccenmfdjkjaa.XFg Go.Proofs.Ytdbccenmfdjkjaa.Plain Go.Proofs.Ytdbccenmfdjkjaa.PureDraw Go.Proofs.Ytdbccenmfdjkjaa.PureDrawRow Go.Proofs.Ytdbccenmfdjkjaa.PureRow Go.Proofs.Ytdbccenmfdjkjaa.PureMoment Go.Proofs.Ytdbccenmfdjkjaa.PureChoices Go.Proofs.Ytdbccenmfdjkjaa.PureSubsets Go.Proofs.Ytdbccenmfdjkjaa.PureGroups Go.Proofs.Ytdbccenmfdjkjaa.PureSplit Go.Proofs.YtdbccenmfdjkjaaW.PrintWords Go.Proofs.YtdbccenmfdjkjaaW.PrintLast Go.Proofs.YtdbccenmfdjkjaaW.PrintMore
set_option linter.unusedVariables false
/-! ### rows taken apart -/
def oneOf : List Ld → Nat → List Int → List Ld
  | [], _, _ => []
  | a :: r, i, x => if (i : Int) ∈ x then a :: oneOf r (i + 1) x else oneOf r (i + 1) x
def restOf : List Ld → Nat → List Int → List Ld
  | [], _, _ => []
  | a :: r, i, x => if (i : Int) ∈ x then restOf r (i + 1) x else a :: restOf r (i + 1) x
theorem apart (p : Int) (x : List Int) : ∀ (l : List Ld) (i : Nat), mom p (oneOf l i x) + mom p (restOf l i x) = mom p l ∧ wt (oneOf l i x) + wt (restOf l i x) = wt l ∧ (oneOf l i x).length + (restOf l i x).length = l.length := by
  intro l
  induction l with
  | nil => intro i; simp [oneOf, restOf, mom, wt]
  | cons a r ih =>
    intro i
    obtain ⟨h1, h2, h3⟩ := ih (i + 1)
    unfold oneOf restOf
    split
    · simp only [mom, wt, List.length_cons]; omega
    · simp only [mom, wt, List.length_cons]; omega
theorem one_skip (j : Int) (x : List Int) : ∀ (l : List Ld) (i : Nat), j < (i : Int) → oneOf l i (j :: x) = oneOf l i x := by
  intro l
  induction l with
  | nil => intro i h; rfl
  | cons a r ih =>
    intro i h
    have e : ((i : Int) ∈ j :: x) ↔ (i : Int) ∈ x := by
      rw [List.mem_cons]
      exact ⟨fun q => q.resolve_left (by omega), Or.inr⟩
    rw [oneOf, oneOf, ih (i + 1) (by omega)]
    by_cases c : (i : Int) ∈ x
    · rw [if_pos c, if_pos (e.2 c)]
    · rw [if_neg c, if_neg (fun q => c (e.1 q))]
theorem one_C {l : List Ld} (p : Int) : ∀ d i t, i + d = l.length → ∀ x ∈ C i d t, mom p (oneOf (l.drop i) i x) = gm l p x ∧ (oneOf (l.drop i) i x).length = t := by
  intro d
  induction d with
  | zero =>
    intro i t hi x hx
    cases t with
    | zero =>
      rw [show C i 0 0 = [[]] from rfl, List.mem_singleton] at hx
      subst hx
      rw [List.drop_of_length_le (by omega)]; exact ⟨rfl, rfl⟩
    | succ t => cases hx
  | succ d ih =>
    intro i t hi x hx
    have hil : i < l.length := by omega
    have none_ : ∀ x : List Int, (∀ y ∈ x, ((i + 1 : Nat) : Int) ≤ y) → oneOf (l.drop i) i x = oneOf (l.drop (i + 1)) (i + 1) x := by
      intro x hx
      rw [drop_cons hil, oneOf, if_neg (fun q => by have := hx _ q; omega)]
    cases t with
    | zero =>
      rw [show C i (d + 1) 0 = [[]] from rfl, List.mem_singleton] at hx
      subst hx
      rw [none_ [] (fun y hy => by cases hy)]
      exact ih (i + 1) 0 (by omega) [] (by cases d <;> simp [C])
    | succ t =>
      rw [show C i (d + 1) (t + 1) = (C (i + 1) d t).map (fun x => (i : Int) :: x) ++ C (i + 1) d (t + 1) from rfl, List.mem_append, List.mem_map] at hx
      rcases hx with ⟨z, hz, rfl⟩ | hx
      · obtain ⟨h1, h2⟩ := ih (i + 1) t (by omega) z hz
        rw [drop_cons hil, oneOf, if_pos (List.mem_cons_self ..), one_skip _ _ _ _ (by omega)]
        rw [mom, gm, h1, List.length_cons, h2]
        refine ⟨?_, rfl⟩
        unfold tm
        rw [rdL hil]
      · rw [none_ x (fun y hy => ((C_mem d (i + 1) (t + 1) x hx).2 y hy).1)]
        exact ih (i + 1) (t + 1) (by omega) x hx
theorem one_Zs {l : List Ld} {p : Int} {x : List Int} (h : x ∈ Zs l p) : mom p (oneOf l 0 x) = 0 ∧ (oneOf l 0 x).length = x.length := by
  obtain ⟨_, _, _, hg⟩ := Zs_mem h
  unfold Zs at h
  obtain ⟨h1, _⟩ := List.mem_filter.1 h
  unfold All at h1
  obtain ⟨t, _, hx⟩ := List.mem_flatMap.1 h1
  have := one_C (l := l) p l.length 0 t (by omega) x hx
  rw [List.drop_zero] at this
  exact ⟨by rw [this.1, hg], by rw [this.2, (C_mem _ _ _ x hx).1]⟩
theorem one_sub (x : List Int) : ∀ (l : List Ld) (i : Nat), (∀ y ∈ oneOf l i x, y ∈ l) ∧ ∀ y ∈ restOf l i x, y ∈ l := by
  intro l
  induction l with
  | nil => intro i; exact ⟨fun y hy => (by cases hy), fun y hy => (by cases hy)⟩
  | cons a r ih =>
    intro i
    obtain ⟨h1, h2⟩ := ih (i + 1)
    unfold oneOf restOf
    split
    · exact ⟨fun y hy => (List.mem_cons.1 hy).elim (fun e => by rw [e]; exact List.mem_cons_self ..) (fun q => List.mem_cons_of_mem _ (h1 y q)), fun y hy => List.mem_cons_of_mem _ (h2 y hy)⟩
    · exact ⟨fun y hy => List.mem_cons_of_mem _ (h1 y hy), fun y hy => (List.mem_cons.1 hy).elim (fun e => by rw [e]; exact List.mem_cons_self ..) (fun q => List.mem_cons_of_mem _ (h2 y q))⟩
theorem ok_sub {l m : List Ld} (h : RowOK l = true) (hs : ∀ y ∈ m, y ∈ l) (hl : m.length ≤ l.length) : RowOK m = true := by
  unfold RowOK at h ⊢
  simp only [Bool.and_eq_true, decide_eq_true_eq, List.all_eq_true] at h ⊢
  exact ⟨by omega, fun y hy => h.2 y (hs y hy)⟩
theorem mom_zero (p : Int) : ∀ l : List Ld, mom 0 l = mom p l + p * wt l := by
  intro l
  induction l with
  | nil => simp [mom, wt]
  | cons x r ih =>
    simp only [mom, wt, ih, Int.sub_zero, Int.mul_sub, Int.mul_add]
    rw [Int.mul_comm x.f1 p]; omega
/-! ### centres -/
theorem fraction_whole {p w : Int} (hp : 0 ≤ p ∧ p ≤ 60) (hw : 1 ≤ w ∧ w ≤ 2000) : Ev (fun k => impl_fraction.f k (p * w) w) (p, 1) := by
  have h0 : 0 ≤ p * w := Int.mul_nonneg (by omega) (by omega)
  have h1 : p * w ≤ 60 * w := Int.mul_le_mul_of_nonneg_right hp.2 (by omega)
  have hm : mx (p * w) (wrap64 (-(p * w))) = p * w := by
    rw [w64 (by omega) (by omega)]; unfold mx; split <;> omega
  have ht : Int.tmod (p * w) w = 0 := Int.mul_tmod_left _ _
  have hd : Int.tdiv (p * w) w = p := Int.mul_tdiv_cancel _ (by omega)
  have hd2 : Int.tdiv w w = 1 := Int.tdiv_self (by omega)
  have e : Ev (fun k => impl_divisor.f k (p * w) w) w := by
    unfold impl_divisor.f
    refine Ev.step (fun k => by simp only [impl_divisor.l0]; exact rfl) (ifp (by omega) (ifn (by omega) ?_))
    rw [ht]
    exact Ev.step (fun k => by simp only [impl_divisor.l0]; exact rfl) (ifn (by omega) (done rfl))
  unfold impl_fraction.f
  rw [hm]
  refine Ev.bind e (ifn (by omega) (done ?_))
  rw [hd, hd2, w64 (by omega) (by omega), w64 (by omega) (by omega)]
theorem CentreOf_whole {l : List Ld} (h : RowOK l = true) (hn : 0 < l.length) {p : Int} (hp : 0 ≤ p ∧ p ≤ 60) (hm : mom p l = 0) : Ev (fun k => impl_CentreOf.f k l) (p, 1, true) := by
  have v := rowV h
  have h1 := isRow_ev l (by have := v.n; omega)
  rw [h] at h1
  obtain ⟨a, b, c⟩ := wt_le l v.each
  have hw : wt l ≤ 1188 := by
    have : ∀ r : List Ld, (∀ x ∈ r, 0 ≤ x.f0 ∧ x.f0 ≤ 60 ∧ 1 ≤ x.f1 ∧ x.f1 ≤ 99) → wt r ≤ 99 * (r.length : Int) := by
      intro r
      induction r with
      | nil => intro _; simp [wt]
      | cons x r ih =>
        intro hr
        have q1 := ih (fun y hy => hr y (List.mem_cons_of_mem _ hy))
        have q2 := hr x (List.mem_cons_self ..)
        simp only [wt, List.length_cons]; omega
    have q := this l v.each
    have := v.n
    omega
  have hz := mom_zero p l
  rw [hm, Int.zero_add] at hz
  have m2 := momentAbout_ev v (p := 0) (by omega)
  have w2 := weightOf_ev v
  have f := fraction_whole hp (w := wt l) (by omega)
  rw [hz] at m2
  have hb : ((l.length : Int) == 0) = false := beq_eq_false_iff_ne.2 (by omega)
  unfold impl_CentreOf.f
  refine Ev.bind h1 (ifp (Eq.refl true) ?_)
  rw [hb]
  refine Ev.step (fun k => by simp only [impl_CentreOf.j0]; exact rfl) (ifn Bool.false_ne_true (Ev.bind m2 (Ev.bind w2 (Ev.bind f ?_))))
  exact done rfl
theorem MomentAbout_ok {l : List Ld} {p : Int} (hr : RowOK l = true) (hp : Pl p = true) : Ev (fun k => impl_MomentAbout.f k l p) (mom p l, true) := by
  have h := MomentAbout_ev l (by have := (rowV hr).n; omega) p
  rw [hr, hp] at h
  exact h
/-! ### what the law looks at -/
theorem vHas_ev (l : List Int) (hn : l.length ≤ 140737488355328) (v : Int) : Ev (fun k => laws_vHas.f k l v) (decide (v ∈ l)) := by
  suffices key : ∀ i, i ≤ l.length → Ev (fun k => laws_vHas.l0 k l v (i : Int)) (decide (v ∈ l.drop i)) from key 0 (Nat.zero_le _)
  refine downTo l.length ?_ ?_
  · exact Ev.step (fun k => by simp only [laws_vHas.l0]; exact rfl) (ifn (by omega) (done (by simp)))
  · intro i hi ih
    refine Ev.step (fun k => by simp only [laws_vHas.l0]; exact rfl) (ifp (by omega) (ifp (by omega) ?_))
    rw [rd_lt hi]
    by_cases h : l[i] = v
    · exact ifp h (done (by rw [drop_cons hi]; simp [h]))
    · refine ifn h ?_
      rw [wrapS hi hn]
      have e : decide (v ∈ l.drop i) = decide (v ∈ l.drop (i + 1)) := by
        have hv : ¬ v = l[i] := fun q => h q.symm
        have hq : v ∈ l.drop i ↔ v ∈ l.drop (i + 1) := by
          rw [drop_cons hi, List.mem_cons]
          exact ⟨fun q => q.resolve_left hv, Or.inr⟩
        exact decide_eq_decide.2 hq
      rw [e]; exact ih
theorem vInts_ev (l : List Int) (hn : l.length ≤ 140737488355328) : Ev (fun k => laws_vInts.f k l l) true := by
  suffices key : ∀ i, i ≤ l.length → Ev (fun k => laws_vInts.l0 k l l (i : Int)) true from by
    unfold laws_vInts.f; exact ifp rfl (key 0 (Nat.zero_le _))
  refine downTo l.length ?_ ?_
  · exact Ev.step (fun k => by simp only [laws_vInts.l0]; exact rfl) (ifn (by omega) (done rfl))
  · intro i hi ih
    refine Ev.step (fun k => by simp only [laws_vInts.l0]; exact rfl) (ifp (by omega) (ifp (by omega) (ifp (by omega) (ifp (Eq.refl (rd l (i : Int))) ?_))))
    rw [wrapS hi hn]; exact ih
theorem vTable_ev (L : List (List Int)) (hn : L.length ≤ 140737488355328) (hm : ∀ x ∈ L, x.length ≤ 140737488355328) : Ev (fun k => laws_vTable.f k L L) true := by
  suffices key : ∀ i, i ≤ L.length → Ev (fun k => laws_vTable.l0 k L L (i : Int)) true from by
    unfold laws_vTable.f; exact ifp rfl (key 0 (Nat.zero_le _))
  refine downTo L.length ?_ ?_
  · exact Ev.step (fun k => by simp only [laws_vTable.l0]; exact rfl) (ifn (by omega) (done rfl))
  · intro i hi ih
    refine Ev.step (fun k => by simp only [laws_vTable.l0]; exact rfl) (ifp (by omega) (ifp (by omega) (ifp (by omega) ?_)))
    rw [rdL3_lt hi, wrapS hi hn]
    exact Ev.bind (vInts_ev _ (hm _ (List.getElem_mem hi))) (ifp (Eq.refl true) ih)
/-! ### draws -/
theorem DrawZeroGroups_ev {l : List Int} (hl : Bytes l) : ∃ (r : List Dl) (p : Int), Ev (fun k => spec_DrawZeroGroups.f k l) (r, p) ∧ r.length ≤ 13 := by
  obtain ⟨r, p, a, s, e, h, _⟩ := near9_ev hl 0 0 (by omega) (by omega) 8
  unfold spec_DrawZeroGroups.f
  exact ⟨r, p, Ev.bind e (done rfl), h⟩
theorem split_l0 {r : List Dl} (hr : RowOK r = true) (h8 : r.length < 8) (p : Int) : ∀ i : Nat, i ≤ 61 → ∃ r2 : List Dl, Ev (fun k => spec_DrawSplitAlike.l0 k r p (i : Int)) r2 ∧ r2.length ≤ 13 := by
  refine downTo 61 ?_ ?_
  · exact ⟨r, Ev.step (fun k => by simp only [spec_DrawSplitAlike.l0]; exact rfl) (ifn (by omega) (done rfl)), by omega⟩
  · rintro i hi ⟨r2, e, h2⟩
    have hok : RowOK (r ++ [(⟨(i : Int), 1⟩ : Dl)]) = true := by
      unfold RowOK at hr ⊢
      simp only [Bool.and_eq_true, decide_eq_true_eq, List.all_eq_true] at hr ⊢
      refine ⟨by rw [List.length_append, List.length_singleton]; omega, fun y hy => ?_⟩
      rcases List.mem_append.1 hy with hy | hy
      · exact hr.2 y hy
      · rw [List.mem_singleton] at hy
        subst hy
        unfold LdOK Pl Wt
        simp only [Bool.and_eq_true, decide_eq_true_eq]
        omega
    have v := rowV hok
    have hlen : (r ++ [(⟨(i : Int), 1⟩ : Dl)]).length ≤ 13 := by rw [List.length_append, List.length_singleton]; omega
    have hw : spec_l2With.f r (i : Int) 1 = some (r ++ [(⟨(i : Int), 1⟩ : Dl)]) := by
      unfold spec_l2With.f
      simp only [Option.bind_some, List.length_nil, List.nil_append]
      rw [if_pos (by omega), if_pos (by omega)]
    have m1 := l2Moment_ev v (p := 0) (by omega)
    have w1 := l2Weight_ev v
    have hne : ¬ wt (r ++ [(⟨(i : Int), 1⟩ : Dl)]) = 0 := by
      have := (wt_le _ v.each).1
      rw [List.length_append, List.length_singleton] at this
      omega
    have e' : Ev (fun k => spec_DrawSplitAlike.l0 k r p (wrap64 ((i : Int) + 1))) r2 := by rw [wrapS hi (by omega)]; exact e
    by_cases c : Int.tmod (mom 0 (r ++ [(⟨(i : Int), 1⟩ : Dl)])) (wt (r ++ [(⟨(i : Int), 1⟩ : Dl)])) = 0
    · by_cases c2 : (i : Int) ≥ p
      · exact ⟨_, Ev.step (fun k => by simp only [spec_DrawSplitAlike.l0]; exact rfl) (ifp (by omega) (somb hw (Ev.bind m1 (Ev.bind w1 (ifn hne (ifp c (ifp c2 (done rfl)))))))), hlen⟩
      · exact ⟨r2, Ev.step (fun k => by simp only [spec_DrawSplitAlike.l0]; exact rfl) (ifp (by omega) (somb hw (Ev.bind m1 (Ev.bind w1 (ifn hne (ifp c (ifn c2 e'))))))), h2⟩
    · exact ⟨r2, Ev.step (fun k => by simp only [spec_DrawSplitAlike.l0]; exact rfl) (ifp (by omega) (somb hw (Ev.bind m1 (Ev.bind w1 (ifn hne (ifn c e')))))), h2⟩
theorem DrawSplitAlike_ev {l : List Int} (hl : Bytes l) : ∃ (r : List Dl), Ev (fun k => spec_DrawSplitAlike.f k l) r ∧ r.length ≤ 13 := by
  obtain ⟨r, p, a, s, e, h, h3, h4⟩ := near9_ev hl 0 0 (by omega) (by omega) 8
  have h1 := l2Row_ev r (by omega)
  have no : Ev (fun k => spec_DrawSplitAlike.j0 k r p false) r := Ev.step (fun k => by simp only [spec_DrawSplitAlike.j0]; exact rfl) (ifn Bool.false_ne_true (done rfl))
  unfold spec_DrawSplitAlike.f
  cases hr : RowOK r with
  | false =>
    rw [hr] at h1
    exact ⟨r, Ev.bind e (Ev.bind h1 (ifn Bool.false_ne_true no)), h⟩
  | true =>
    rw [hr] at h1
    by_cases c1 : (r.length : Int) > 0
    · by_cases c2 : (r.length : Int) < 8
      · obtain ⟨b, a1, s1, e1, b0, b1⟩ := one_ev hl a s (by omega) (by omega) 4 (by omega)
        cases b with
        | true => exact ⟨r, Ev.bind e (Ev.bind h1 (ifp (Eq.refl true) (ifp c1 (ifp c2 (somb e1 no))))), h⟩
        | false =>
          obtain ⟨r2, e2, h2⟩ := split_l0 hr (by omega) p 0 (Nat.zero_le _)
          have yes : Ev (fun k => spec_DrawSplitAlike.j0 k r p true) r2 := Ev.step (fun k => by simp only [spec_DrawSplitAlike.j0]; exact rfl) (ifp (Eq.refl true) e2)
          exact ⟨r2, Ev.bind e (Ev.bind h1 (ifp (Eq.refl true) (ifp c1 (ifp c2 (somb e1 yes))))), h2⟩
      · exact ⟨r, Ev.bind e (Ev.bind h1 (ifp (Eq.refl true) (ifp c1 (ifn c2 no)))), h⟩
    · exact ⟨r, Ev.bind e (Ev.bind h1 (ifp (Eq.refl true) (ifn c1 no))), h⟩
end Go.Proofs.Ytdbccenmfdjkjaa.PureGroupsX
