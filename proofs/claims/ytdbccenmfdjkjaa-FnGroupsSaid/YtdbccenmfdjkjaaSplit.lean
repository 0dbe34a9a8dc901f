/- Splits of a row into two groups with the same centre. No conditions beyond those of the lemmas' own hypotheses. -/
import Derived.Test.YtdbccenmfdjkjaaGroups
import Derived.Test.YtdbccenmfdjkjaaXFgx18
import Derived.Test.YtdbccenmfdjkjaaXFgx16
import Derived.Test.YtdbccenmfdjkjaaXFgx17
import Derived.Test.YtdbccenmfdjkjaaXFgx13
import Derived.Test.YtdbccenmfdjkjaaXFgx15
namespace Go.Proofs.Ytdbccenmfdjkjaa.PureSplit
open Go.RowKit Go.Proofs.Ytdbccenmfdjkjaa.XFg Go.Proofs.Ytdbccenmfdjkjaa.Plain Go.Proofs.Ytdbccenmfdjkjaa.PureRow Go.Proofs.Ytdbccenmfdjkjaa.PureMoment Go.Proofs.Ytdbccenmfdjkjaa.PureChoices Go.Proofs.Ytdbccenmfdjkjaa.PureSubsets Go.Proofs.Ytdbccenmfdjkjaa.PureGroups Go.Proofs.YtdbccenmfdjkjaaW.PrintWords Go.Proofs.YtdbccenmfdjkjaaW.PrintLast Go.Proofs.YtdbccenmfdjkjaaW.PrintMore
set_option linter.unusedVariables false
/-- The weight of loads. -/
def wt : List Ld → Int
  | [] => 0
  | x :: r => x.f1 + wt r
theorem wt_le : ∀ l : List Ld, (∀ x ∈ l, 0 ≤ x.f0 ∧ x.f0 ≤ 60 ∧ 1 ≤ x.f1 ∧ x.f1 ≤ 99) → (l.length : Int) ≤ wt l ∧ 0 ≤ mom 0 l ∧ mom 0 l ≤ 60 * wt l := by
  intro l
  induction l with
  | nil => intro _; simp [wt, mom]
  | cons x r ih =>
    intro h
    have h1 := ih (fun y hy => h y (List.mem_cons_of_mem _ hy))
    have h2 := h x (List.mem_cons_self ..)
    have p1 : 0 ≤ x.f1 * (60 - x.f0) := Int.mul_nonneg (by omega) (by omega)
    have p2 : 0 ≤ x.f1 * x.f0 := Int.mul_nonneg (by omega) (by omega)
    rw [Int.mul_sub] at p1
    simp only [wt, mom, List.length_cons, Int.sub_zero]
    omega
theorem l2Weight_ev {l : List Ld} (h : RowV l) : Ev (fun k => spec_l2Weight.f k l) (wt l) := by
  have hn := h.n
  suffices key : ∀ i, i ≤ l.length → ∀ acc : Int, 0 ≤ acc ∧ acc ≤ 99 * (i : Int) → Ev (fun k => spec_l2Weight.l0 k l acc (i : Int)) (acc + wt (l.drop i)) by
    have := key 0 (Nat.zero_le _) 0 (by simp)
    simpa [spec_l2Weight.f] using this
  refine downTo l.length ?_ ?_
  · intro acc ha
    rw [List.drop_length]
    exact Ev.step (fun k => by simp only [spec_l2Weight.l0]; exact rfl) (ifn (by omega) (done (by simp [wt])))
  · intro i hi ih acc ha
    have h2 := h.each l[i] (List.getElem_mem hi)
    refine Ev.step (fun k => by simp only [spec_l2Weight.l0]; exact rfl) (ifp (by omega) (ifp (by omega) ?_))
    rw [rdL hi, w64 (by omega) (by omega), wrapS hi (by omega), drop_cons hi, wt, ← Int.add_assoc]
    exact ih _ (by omega)
theorem weightOf_ev {l : List Ld} (h : RowV l) : Ev (fun k => impl_weightOf.f k l) (wt l) := by
  have hn := h.n
  suffices key : ∀ i, i ≤ l.length → ∀ acc : Int, 0 ≤ acc ∧ acc ≤ 99 * (i : Int) → Ev (fun k => impl_weightOf.l0 k acc l (l.length : Int) (i : Int)) (acc + wt (l.drop i)) by
    have := key 0 (Nat.zero_le _) 0 (by simp)
    simpa [impl_weightOf.f] using this
  refine downTo l.length ?_ ?_
  · intro acc ha
    rw [List.drop_length]
    exact Ev.step (fun k => by simp only [impl_weightOf.l0]; exact rfl) (ifn (by omega) (done (by simp [wt])))
  · intro i hi ih acc ha
    have h2 := h.each l[i] (List.getElem_mem hi)
    refine Ev.step (fun k => by simp only [impl_weightOf.l0]; exact rfl) (ifp (by omega) (ifp (by omega) (ifp (by omega) ?_)))
    rw [rdL hi, w64 (by omega) (by omega), wrapS hi (by omega), drop_cons hi, wt, ← Int.add_assoc]
    exact ih _ (by omega)
theorem has_ev (l : List Int) (hn : l.length ≤ 140737488355328) (v : Int) : Ev (fun k => spec_l1Has.f k l v) (decide (v ∈ l)) := by
  suffices key : ∀ i, i ≤ l.length → Ev (fun k => spec_l1Has.l0 k l v (i : Int)) (decide (v ∈ l.drop i)) from key 0 (Nat.zero_le _)
  refine downTo l.length ?_ ?_
  · exact Ev.step (fun k => by simp only [spec_l1Has.l0]; exact rfl) (ifn (by omega) (done (by simp)))
  · intro i hi ih
    refine Ev.step (fun k => by simp only [spec_l1Has.l0]; exact rfl) (ifp (by omega) (ifp (by omega) ?_))
    rw [rd_lt hi]
    by_cases h : l[i] = v
    · exact ifp h (done (by rw [drop_cons hi]; simp [h]))
    · refine ifn h ?_
      rw [wrapS hi hn]
      have e : decide (v ∈ l.drop i) = decide (v ∈ l.drop (i + 1)) := by
        have hv : ¬ v = l[i] := fun q => h q.symm
        have hq : v ∈ l.drop i ↔ v ∈ l.drop (i + 1) := by
          rw [drop_cons hi, List.mem_cons]
          exact ⟨fun q => q.resolve_left hv, Or.inr⟩
        exact decide_eq_decide.2 hq
      rw [e]; exact ih
/-- A set of places has the first place exactly if it begins with it. -/
theorem C_head : ∀ d i t, ∀ x ∈ C i d t, ((i : Int) ∈ x ↔ 0 < x.length ∧ rd x 0 = (i : Int)) := by
  intro d i t x hx
  cases t with
  | zero =>
    have : x = [] := by cases d <;> simpa [C] using hx
    subst this; simp
  | succ t =>
    cases d with
    | zero => cases hx
    | succ d =>
      rw [show C i (d + 1) (t + 1) = (C (i + 1) d t).map (fun x => (i : Int) :: x) ++ C (i + 1) d (t + 1) from rfl, List.mem_append, List.mem_map] at hx
      rcases hx with ⟨z, hz, rfl⟩ | hx
      · simp [rd]
      · obtain ⟨h1, h2⟩ := C_mem d (i + 1) (t + 1) x hx
        constructor
        · intro h
          have := h2 _ h
          omega
        · rintro ⟨h3, h4⟩
          have e : rd x 0 = x[0] := rd_lt (i := 0) h3
          have := h2 x[0] (List.getElem_mem h3)
          omega
theorem All_mem {n : Nat} {x : List Int} (h : x ∈ All 0 n) : x.length ≤ n ∧ Val n x ∧ ((0 : Int) ∈ x ↔ 0 < x.length ∧ rd x 0 = 0) := by
  unfold All at h
  obtain ⟨t, ht, hx⟩ := List.mem_flatMap.1 h
  rw [List.mem_range] at ht
  obtain ⟨h1, h2⟩ := C_mem n 0 t x hx
  exact ⟨by omega, fun y hy => by have := h2 y hy; omega, C_head n 0 t x hx⟩
theorem All_len (n : Nat) (hn : n ≤ 12) : (All 0 n).length ≤ 4096 := by
  rw [← (grp_all n 0).length_eq, List.length_map, List.length_range]
  have h2 : 2 ^ n ≤ 2 ^ 12 := Nat.pow_le_pow_right (by decide) hn
  have h3 : (2 : Nat) ^ 12 = 4096 := by decide
  omega
theorem Zs_len (l : List Ld) (hn : l.length ≤ 12) (p : Int) : (Zs l p).length ≤ 4096 := by
  have := List.length_filter_le (PureGroups.Z l p) (All 0 l.length)
  have := All_len l.length hn
  unfold Zs; omega
theorem Zs_mem {l : List Ld} {p : Int} {x : List Int} (h : x ∈ Zs l p) : x.length ≤ l.length ∧ Val l.length x ∧ ((0 : Int) ∈ x ↔ 0 < x.length ∧ rd x 0 = 0) ∧ gm l p x = 0 := by
  unfold Zs at h
  obtain ⟨h1, h2⟩ := List.mem_filter.1 h
  obtain ⟨a, b, c⟩ := All_mem h1
  exact ⟨a, b, c, by unfold PureGroups.Z at h2; exact beq_iff_eq.1 h2⟩
/-- The first group with the first load and not all of them. -/
def first (l : List Ld) (S : List (List Int)) : List Int × Bool := match S.find? (fun x => decide ((0 : Int) ∈ x) && decide (x.length < l.length)) with
  | some x => (x, true)
  | none => ([], false)
theorem first_loops (l : List Ld) (S : List (List Int)) (hS : S.length ≤ 4096) (hm : ∀ x ∈ S, x.length ≤ 12 ∧ ((0 : Int) ∈ x ↔ 0 < x.length ∧ rd x 0 = 0)) : ∀ j, j ≤ S.length → Ev (fun k => spec_SplitAlike.l0 k l S (j : Int)) (first l (S.drop j)) ∧ Ev (fun k => impl_SplitAlike.l0 k l S (S.length : Int) (j : Int)) (first l (S.drop j)) := by
  refine downTo S.length ?_ ?_
  · rw [List.drop_length]
    exact ⟨Ev.step (fun k => by simp only [spec_SplitAlike.l0]; exact rfl) (ifn (by omega) (done rfl)), Ev.step (fun k => by simp only [impl_SplitAlike.l0]; exact rfl) (ifn (by omega) (done rfl))⟩
  · rintro j hj ⟨e1, e2⟩
    obtain ⟨h1, h2⟩ := hm S[j] (List.getElem_mem hj)
    have hh := has_ev S[j] (by omega) 0
    have h0 : (0 : Int) ≤ (j : Int) := by omega
    have hjl : (j : Int) < (S.length : Int) := by omega
    have w : wrap64 ((j : Int) + 1) = ((j + 1 : Nat) : Int) := wrapS hj (by omega)
    have hd := drop_cons hj
    by_cases c1 : (0 : Int) ∈ S[j]
    · rw [decide_eq_true c1] at hh
      obtain ⟨c3, c4⟩ := h2.1 c1
      by_cases c2 : S[j].length < l.length
      · have hf : first l (S.drop j) = (S[j], true) := by
          unfold first
          rw [hd, List.find?_cons_of_pos (by simp [c1, c2])]
        rw [hf]
        refine ⟨Ev.step (fun k => by simp only [spec_SplitAlike.l0]; exact rfl) (ifp hjl (ifp h0 ?_)), Ev.step (fun k => by simp only [impl_SplitAlike.l0]; exact rfl) (ifp hjl (ifp h0 (ifp hjl ?_)))⟩
        · rw [rdL3_lt hj]
          exact Ev.bind hh (ifp (Eq.refl true) (ifp (by omega) (done rfl)))
        · rw [rdL3_lt hj]
          exact ifp (by omega) (ifp (by omega) (ifp (by omega) (ifp c4 (done rfl))))
      · have hf : first l (S.drop j) = first l (S.drop (j + 1)) := by
          unfold first
          rw [hd, List.find?_cons_of_neg (by simp [c2])]
        rw [hf]
        refine ⟨Ev.step (fun k => by simp only [spec_SplitAlike.l0]; exact rfl) (ifp hjl (ifp h0 ?_)), Ev.step (fun k => by simp only [impl_SplitAlike.l0]; exact rfl) (ifp hjl (ifp h0 (ifp hjl ?_)))⟩
        · rw [rdL3_lt hj, w]
          exact Ev.bind hh (ifp (Eq.refl true) (ifn (by omega) e1))
        · rw [rdL3_lt hj, w]
          exact ifp (by omega) (ifn (by omega) e2)
    · rw [decide_eq_false c1] at hh
      have hf : first l (S.drop j) = first l (S.drop (j + 1)) := by
        unfold first
        rw [hd, List.find?_cons_of_neg (by simp [c1])]
      rw [hf]
      refine ⟨Ev.step (fun k => by simp only [spec_SplitAlike.l0]; exact rfl) (ifp hjl (ifp h0 ?_)), Ev.step (fun k => by simp only [impl_SplitAlike.l0]; exact rfl) (ifp hjl (ifp h0 (ifp hjl ?_)))⟩
      · rw [rdL3_lt hj, w]
        exact Ev.bind hh (ifn Bool.false_ne_true e1)
      · rw [rdL3_lt hj, w]
        refine ifc (fun c3 => ifc (fun c5 => ifp (by omega) (ifn (fun c4 => c1 (h2.2 ⟨by omega, c4⟩)) e2)) fun _ => e2) fun _ => e2
theorem first_len (l : List Ld) (S : List (List Int)) (hm : ∀ x ∈ S, x.length ≤ 12) : (first l S).1.length ≤ 12 := by
  unfold first
  split
  · rename_i x hx
    exact hm x (List.mem_of_find?_eq_some hx)
  · simp
/-- What both sides say of a row. -/
def split (l : List Ld) : List Int × Bool := if RowOK l && decide (2 ≤ l.length) then (if Int.tmod (mom 0 l) (wt l) = 0 then first l (Zs l (Int.tdiv (mom 0 l) (wt l))) else ([], false)) else ([], false)
theorem place {l : List Ld} (h : RowV l) (h2 : 2 ≤ l.length) : (0 ≤ Int.tdiv (mom 0 l) (wt l) ∧ Int.tdiv (mom 0 l) (wt l) ≤ 60) ∧ ¬ wt l = 0 := by
  obtain ⟨a, b, c⟩ := wt_le l h.each
  have hw : 0 < wt l := by omega
  refine ⟨⟨Int.tdiv_nonneg b (by omega), ?_⟩, by omega⟩
  rw [Int.tdiv_eq_ediv_of_nonneg b]
  exact Int.le_of_lt_add_one (Int.ediv_lt_of_lt_mul hw (by rw [Int.add_mul, Int.one_mul]; omega))
theorem split_ev (l : List Ld) (hn : l.length ≤ 140737488355328) : Ev (fun k => spec_SplitAlike.f k l) (split l) ∧ Ev (fun k => impl_SplitAlike.f k l) (split l) := by
  have h1 := l2Row_ev l hn
  have h2 := isRow_ev l hn
  have no1 : Ev (fun k => spec_SplitAlike.j0 k l true) ([], false) := Ev.step (fun k => by simp only [spec_SplitAlike.j0]; exact rfl) (ifp (Eq.refl true) (done rfl))
  have no2 : Ev (fun k => impl_SplitAlike.j0 k l true) ([], false) := Ev.step (fun k => by simp only [impl_SplitAlike.j0]; exact rfl) (ifp (Eq.refl true) (done rfl))
  unfold spec_SplitAlike.f impl_SplitAlike.f split
  cases hr : RowOK l with
  | false =>
    rw [hr] at h1 h2
    exact ⟨Ev.bind h1 (ifn Bool.false_ne_true no1), Ev.bind h2 (ifn Bool.false_ne_true no2)⟩
  | true =>
    rw [hr] at h1 h2
    by_cases c : 2 ≤ l.length
    · have hc : decide ((l.length : Int) < 2) = false := decide_eq_false (by omega)
      have v := rowV hr
      obtain ⟨hp, hw⟩ := place v c
      have m1 := l2Moment_ev v (p := 0) (by omega)
      have m2 := momentAbout_ev v (p := 0) (by omega)
      have w1 := l2Weight_ev v
      have w2 := weightOf_ev v
      rw [Bool.true_and, decide_eq_true c, if_pos rfl]
      by_cases ht : Int.tmod (mom 0 l) (wt l) = 0
      · rw [if_pos ht]
        have hwr : wrap64 (Int.tdiv (mom 0 l) (wt l)) = Int.tdiv (mom 0 l) (wt l) := w64 (by omega) (by omega)
        have g1 := l9Groups_ev v hp
        have g2 := zeroGroups_ev v hp
        have hlen := Zs_len l v.n (Int.tdiv (mom 0 l) (wt l))
        obtain ⟨f1, f2⟩ := first_loops l (Zs l (Int.tdiv (mom 0 l) (wt l))) hlen (fun x hx => ⟨Nat.le_trans (Zs_mem hx).1 v.n, (Zs_mem hx).2.2.1⟩) 0 (Nat.zero_le _)
        rw [List.drop_zero] at f1 f2
        have hb : (Int.tmod (mom 0 l) (wt l) != 0) = false := by rw [ht]; rfl
        have hne : ¬ ((l.length : Int) < 2) := by omega
        have j1 : Ev (fun k => spec_SplitAlike.j0 k l (Int.tmod (mom 0 l) (wt l) != 0)) (first l (Zs l (Int.tdiv (mom 0 l) (wt l)))) := by
          rw [hb]
          refine Ev.step (fun k => by simp only [spec_SplitAlike.j0]; exact rfl) (ifn Bool.false_ne_true (Ev.bind m1 (Ev.bind w1 (ifn hw ?_))))
          rw [hwr]
          exact Ev.bind g1 f1
        have j2 : Ev (fun k => impl_SplitAlike.j0 k l (decide ((l.length : Int) < 2))) (first l (Zs l (Int.tdiv (mom 0 l) (wt l)))) := by
          rw [hc]
          refine Ev.step (fun k => by simp only [impl_SplitAlike.j0]; exact rfl) (ifn Bool.false_ne_true (Ev.bind m2 (Ev.bind w2 (ifn hw (ifp ht ?_)))))
          rw [hwr]
          exact Ev.bind g2 f2
        exact ⟨Ev.bind h1 (ifp (Eq.refl true) (ifn hne (Ev.bind m1 (Ev.bind w1 (ifn hw j1))))), Ev.bind h2 (ifp (Eq.refl true) j2)⟩
      · rw [if_neg ht]
        have hb : (Int.tmod (mom 0 l) (wt l) != 0) = true := bne_iff_ne.2 ht
        have hne : ¬ ((l.length : Int) < 2) := by omega
        have j1 : Ev (fun k => spec_SplitAlike.j0 k l (Int.tmod (mom 0 l) (wt l) != 0)) ([], false) := by rw [hb]; exact no1
        have j2 : Ev (fun k => impl_SplitAlike.j0 k l (decide ((l.length : Int) < 2))) ([], false) := by
          rw [hc]
          exact Ev.step (fun k => by simp only [impl_SplitAlike.j0]; exact rfl) (ifn Bool.false_ne_true (Ev.bind m2 (Ev.bind w2 (ifn hw (ifn ht (done rfl))))))
        exact ⟨Ev.bind h1 (ifp (Eq.refl true) (ifn hne (Ev.bind m1 (Ev.bind w1 (ifn hw j1))))), Ev.bind h2 (ifp (Eq.refl true) j2)⟩
    · have hc : decide ((l.length : Int) < 2) = true := decide_eq_true (by omega)
      have hlt : (l.length : Int) < 2 := by omega
      rw [Bool.true_and, decide_eq_false c, if_neg Bool.false_ne_true]
      refine ⟨Ev.bind h1 (ifp (Eq.refl true) (ifp hlt no1)), Ev.bind h2 (ifp (Eq.refl true) ?_)⟩
      rw [hc]; exact no2
theorem split_len (l : List Ld) : (split l).1.length ≤ 12 := by
  unfold split
  split
  · rename_i hr
    rw [Bool.and_eq_true] at hr
    split
    · exact first_len _ _ (fun x hx => Nat.le_trans (Zs_mem hx).1 (rowV hr.1).n)
    · simp
  · simp
end Go.Proofs.Ytdbccenmfdjkjaa.PureSplit
