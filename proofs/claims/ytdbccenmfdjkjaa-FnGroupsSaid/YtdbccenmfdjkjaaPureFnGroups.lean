/- The plain law of FnGroups: a group with the moment 0 can be left out, and a split leaves two groups with the same centre. No conditions. -/
import Derived.Test.YtdbccenmfdjkjaaGroupsX
import Derived.Test.YtdbccenmfdjkjaaXFgx22
namespace Go.Proofs.Ytdbccenmfdjkjaa.Pure
open Go.RowKit Go.Proofs.Ytdbccenmfdjkjaa.XFg Go.Proofs.Ytdbccenmfdjkjaa.Plain Go.Proofs.Ytdbccenmfdjkjaa.PureDraw Go.Proofs.Ytdbccenmfdjkjaa.PureDrawRow Go.Proofs.Ytdbccenmfdjkjaa.PureRow Go.Proofs.Ytdbccenmfdjkjaa.PureMoment Go.Proofs.Ytdbccenmfdjkjaa.PureChoices Go.Proofs.Ytdbccenmfdjkjaa.PureSubsets Go.Proofs.Ytdbccenmfdjkjaa.PureGroups Go.Proofs.Ytdbccenmfdjkjaa.PureSplit Go.Proofs.Ytdbccenmfdjkjaa.PureGroupsX Go.Proofs.YtdbccenmfdjkjaaW.PrintWords Go.Proofs.YtdbccenmfdjkjaaW.PrintLast Go.Proofs.YtdbccenmfdjkjaaW.PrintMore
set_option linter.unusedVariables false
theorem Zs_nil (l : List Ld) (p : Int) : ∃ L, Zs l p = [] :: L := by
  unfold Zs All
  rw [List.range_succ_eq_map, List.flatMap_cons, show C 0 l.length 0 = [[]] from by cases l.length <;> rfl, List.singleton_append, List.filter_cons_of_pos (by simp [PureGroups.Z, gm])]
  exact ⟨_, rfl⟩
/-- The last part of the law: each group can be left out. -/
theorem l2_ev (row : List Ld) (hr : RowOK row = true) (p : Int) (hp : Pl p = true) (L : List (List Int)) (all : Int) (g : Nat) (hg : g < L.length) (hL : L.length ≤ 4096) (hx : L[g].length ≤ 12) (hm : mom p (restOf row 0 L[g]) = all) (h : Ev (fun k => laws_FnGroups.l1 k row p L all (wrap64 ((g : Int) + 1))) true) :
    ∀ i, i ≤ row.length → ∀ acc : List Ld, acc ++ restOf (row.drop i) i L[g] = restOf row 0 L[g] → acc.length ≤ i → Ev (fun k => laws_FnGroups.l2 k row p L all (g : Int) acc (i : Int)) true := by
  have hn := (rowV hr).n
  have hrest : RowOK (restOf row 0 L[g]) = true := ok_sub hr (one_sub L[g] row 0).2 (by have := (apart p L[g] row 0).2.2; omega)
  refine downTo row.length ?_ ?_
  · intro acc he ha
    rw [List.drop_length, show restOf [] row.length L[g] = [] from rfl, List.append_nil] at he
    rw [he]
    refine Ev.step (fun k => by simp only [laws_FnGroups.l2]; exact rfl) (ifn (by omega) (Ev.bind (MomentAbout_ok hrest hp) (ifp (Eq.refl true) (ifp hm h))))
  · intro i hi ih acc he ha
    have hv := vHas_ev L[g] (by omega) (i : Int)
    rw [drop_cons hi, restOf] at he
    refine Ev.step (fun k => by simp only [laws_FnGroups.l2]; exact rfl) (ifp (by omega) (ifp (by omega) (ifp (by omega) ?_)))
    rw [rdL3_lt hg, wrapS hi (by omega), rdL hi]
    refine Ev.bind hv ?_
    by_cases c : (i : Int) ∈ L[g]
    · rw [if_pos c] at he
      exact ifp (decide_eq_true c) (ih acc he (by omega))
    · rw [if_neg c] at he
      refine ifn (by simp [c]) (ifp (by omega) (ifp (by omega) ?_))
      exact ih _ (by rw [List.append_assoc]; exact he) (by rw [List.length_append, List.length_singleton]; omega)
theorem l1_ev (row : List Ld) (hr : RowOK row = true) (p : Int) (hp : Pl p = true) : ∀ g, g ≤ (Zs row p).length → Ev (fun k => laws_FnGroups.l1 k row p (Zs row p) (mom p row) (g : Int)) true := by
  have hn := (rowV hr).n
  have hL := Zs_len row hn p
  refine downTo (Zs row p).length ?_ ?_
  · exact Ev.step (fun k => by simp only [laws_FnGroups.l1]; exact rfl) (ifn (by omega) (done rfl))
  · intro g hg ih
    have hmem : (Zs row p)[g] ∈ Zs row p := List.getElem_mem hg
    have z := one_Zs hmem
    have ap := (apart p (Zs row p)[g] row 0).1
    refine Ev.step (fun k => by simp only [laws_FnGroups.l1]; exact rfl) (ifp (by omega) ?_)
    refine l2_ev row hr p hp (Zs row p) (mom p row) g hg hL (Nat.le_trans (Zs_mem hmem).1 hn) (by rw [z.1] at ap; omega) ?_ 0 (Nat.zero_le _) [] rfl (Nat.le_refl _)
    rw [wrapS hg (by omega)]; exact ih
theorem CountZero_ok {l : List Ld} {p : Int} (hr : RowOK l = true) (hp : Pl p = true) : Ev (fun k => impl_CountZero.f k l p) (((Zs l p).length : Int), true) := by
  have h2 := isRow_ev l (by have := (rowV hr).n; omega)
  rw [hr] at h2
  unfold impl_CountZero.f
  exact Ev.bind h2 (ifp (Eq.refl true) (somb (isPlace_eq p) (ifp hp (Ev.bind (zeroGroups_ev (rowV hr) (plV hp)) (done rfl)))))
theorem count_both (l : List Ld) (hn : l.length ≤ 140737488355328) (p : Int) : ∃ r : Int × Bool, Ev (fun k => spec_CountZero.f k l p) r ∧ Ev (fun k => impl_CountZero.f k l p) r ∧ (r.2 = true → 1 ≤ r.1) := by
  have h1 := l2Row_ev l hn
  have h2 := isRow_ev l hn
  unfold spec_CountZero.f impl_CountZero.f
  cases hr : RowOK l with
  | false =>
    rw [hr] at h1 h2
    exact ⟨(0, false), Ev.bind h1 (ifn Bool.false_ne_true (done rfl)), Ev.bind h2 (ifn Bool.false_ne_true (done rfl)), fun q => (by cases q)⟩
  | true =>
    rw [hr] at h1 h2
    cases hp : Pl p with
    | false =>
      exact ⟨(0, false), Ev.bind h1 (ifp (Eq.refl true) (somb (l2In_eq p) (ifn (by rw [hp]; exact Bool.false_ne_true) (done rfl)))), Ev.bind h2 (ifp (Eq.refl true) (somb (isPlace_eq p) (ifn (by rw [hp]; exact Bool.false_ne_true) (done rfl)))), fun q => (by cases q)⟩
    | true =>
      refine ⟨(((Zs l p).length : Int), true), Ev.bind h1 (ifp (Eq.refl true) (somb (l2In_eq p) (ifp hp (Ev.bind (l9Groups_ev (rowV hr) (plV hp)) (done rfl))))), Ev.bind h2 (ifp (Eq.refl true) (somb (isPlace_eq p) (ifp hp (Ev.bind (zeroGroups_ev (rowV hr) (plV hp)) (done rfl))))), fun _ => ?_⟩
      obtain ⟨L, e⟩ := Zs_nil l p
      rw [e]; simp only [List.length_cons]; omega
theorem groups_both (l : List Ld) (hn : l.length ≤ 140737488355328) (p : Int) : ∃ r : List (List Int) × Bool, Ev (fun k => spec_ZeroGroups.f k l p) r ∧ Ev (fun k => impl_ZeroGroups.f k l p) r ∧ (r.2 = true → RowOK l = true ∧ Pl p = true ∧ r.1 = Zs l p) ∧ (r.2 = false → r.1 = []) := by
  have h1 := l2Row_ev l hn
  have h2 := isRow_ev l hn
  unfold spec_ZeroGroups.f impl_ZeroGroups.f
  cases hr : RowOK l with
  | false =>
    rw [hr] at h1 h2
    exact ⟨([], false), Ev.bind h1 (ifn Bool.false_ne_true (done rfl)), Ev.bind h2 (ifn Bool.false_ne_true (done rfl)), fun q => (by cases q), fun _ => rfl⟩
  | true =>
    rw [hr] at h1 h2
    cases hp : Pl p with
    | false =>
      exact ⟨([], false), Ev.bind h1 (ifp (Eq.refl true) (somb (l2In_eq p) (ifn (by rw [hp]; exact Bool.false_ne_true) (done rfl)))), Ev.bind h2 (ifp (Eq.refl true) (somb (isPlace_eq p) (ifn (by rw [hp]; exact Bool.false_ne_true) (done rfl)))), fun q => (by cases q), fun _ => rfl⟩
    | true =>
      by_cases c : (l.length : Int) > 8
      · exact ⟨([], false), Ev.bind h1 (ifp (Eq.refl true) (somb (l2In_eq p) (ifp hp (ifp c (done rfl))))), Ev.bind h2 (ifp (Eq.refl true) (somb (isPlace_eq p) (ifp hp (ifp c (done rfl))))), fun q => (by cases q), fun _ => rfl⟩
      · exact ⟨(Zs l p, true), Ev.bind h1 (ifp (Eq.refl true) (somb (l2In_eq p) (ifp hp (ifn c (Ev.bind (l9Groups_ev (rowV hr) (plV hp)) (done rfl)))))), Ev.bind h2 (ifp (Eq.refl true) (somb (isPlace_eq p) (ifp hp (ifn c (Ev.bind (zeroGroups_ev (rowV hr) (plV hp)) (done rfl)))))), fun _ => ⟨rfl, rfl, rfl⟩, fun q => (by cases q)⟩
/-- The last part, for what the program says of a row and a place. -/
theorem j2_ev (row : List Ld) (p : Int) (r : List (List Int) × Bool) (h : r.2 = true → RowOK row = true ∧ Pl p = true ∧ r.1 = Zs row p) : Ev (fun k => laws_FnGroups.j2 k row p r.1 r.2) true := by
  refine Ev.step (fun k => by simp only [laws_FnGroups.j2]; exact rfl) ?_
  cases hq : r.2 with
  | false => exact ifn Bool.false_ne_true (done rfl)
  | true =>
    obtain ⟨hr, hp, e⟩ := h hq
    obtain ⟨L, eL⟩ := Zs_nil row p
    have hpos : 0 < (Zs row p).length := by rw [eL]; simp
    have h0 : (rd_L4 (Zs row p) 0).length = 0 := by rw [eL]; rfl
    rw [e]
    refine ifp (Eq.refl true) (Ev.bind (CountZero_ok hr hp) (Ev.bind (MomentAbout_ok hr hp) (ifp (Eq.refl true) (ifp (Eq.refl true) (ifp (Eq.refl _) (ifn (by omega) (ifp (by omega) (ifp (by omega) ?_))))))))
    exact l1_ev row hr p hp 0 (Nat.zero_le _)
/-- What a split is. -/
theorem split_says {v : List Ld} {x : List Int} (h : split v = (x, true)) : RowOK v = true ∧ 2 ≤ v.length ∧ ∃ p, (0 ≤ p ∧ p ≤ 60) ∧ x ∈ Zs v p ∧ (0 : Int) ∈ x ∧ x.length < v.length ∧ mom p v = 0 := by
  unfold split at h
  split at h
  · rename_i hr
    rw [Bool.and_eq_true, decide_eq_true_eq] at hr
    split at h
    · rename_i ht
      obtain ⟨hp, hw⟩ := place (rowV hr.1) hr.2
      unfold first at h
      split at h
      · rename_i y hy
        injection h with h1 _
        subst h1
        have q := List.find?_some hy
        rw [Bool.and_eq_true, decide_eq_true_eq, decide_eq_true_eq] at q
        refine ⟨hr.1, hr.2, Int.tdiv (mom 0 v) (wt v), hp, List.mem_of_find?_eq_some hy, q.1, q.2, ?_⟩
        have z := mom_zero (Int.tdiv (mom 0 v) (wt v)) v
        have d := Int.mul_tdiv_add_tmod (mom 0 v) (wt v)
        rw [ht, Int.add_zero, Int.mul_comm] at d
        omega
      · simp at h
    · simp at h
  · simp at h
theorem l0_ev (row : List Ld) (p : Int) (g : List (List Int)) (ok : Bool) (v : List Ld) (x : List Int) (h : split v = (x, true)) (hj : Ev (fun k => laws_FnGroups.j2 k row p g ok) true) : ∀ i, i ≤ v.length → ∀ a b : List Ld, a ++ oneOf (v.drop i) i x = oneOf v 0 x → b ++ restOf (v.drop i) i x = restOf v 0 x → a.length ≤ i → b.length ≤ i → Ev (fun k => laws_FnGroups.l0 k row p g ok v x a b (i : Int)) true := by
  obtain ⟨hr, h2, q, hq, hx, hx0, hxl, hm⟩ := split_says h
  have hn := (rowV hr).n
  have z := one_Zs hx
  obtain ⟨ap1, ap2, ap3⟩ := apart q x v 0
  have hxn := (Zs_mem hx).1
  have hpos : 0 < x.length := List.length_pos_of_mem hx0
  have o1 : RowOK (oneOf v 0 x) = true := ok_sub hr (one_sub x v 0).1 (by omega)
  have o2 : RowOK (restOf v 0 x) = true := ok_sub hr (one_sub x v 0).2 (by omega)
  have c1 := CentreOf_whole o1 (by omega) hq z.1
  have c2 := CentreOf_whole o2 (by omega) hq (by rw [z.1] at ap1; omega)
  have c3 := CentreOf_whole hr (by omega) hq hm
  have hv0 := vHas_ev x (by omega) 0
  rw [decide_eq_true hx0] at hv0
  have hsame : ¬ ((!(q == q) || (!((1 : Int) == 1))) = true) := by simp
  refine downTo v.length ?_ ?_
  · intro a b ea eb la lb
    rw [List.drop_length, show oneOf [] v.length x = [] from rfl, List.append_nil] at ea
    rw [List.drop_length, show restOf [] v.length x = [] from rfl, List.append_nil] at eb
    rw [ea, eb]
    refine Ev.step (fun k => by simp only [laws_FnGroups.l0]; exact rfl) (ifn (by omega) (Ev.bind c1 (Ev.bind c2 (Ev.bind c3 (ifp (Eq.refl true) (ifp (Eq.refl true) (ifp (Eq.refl true) (ifn hsame (ifn hsame (Ev.bind hv0 (ifp (Eq.refl true) hj)))))))))))
  · intro i hi ih a b ea eb la lb
    have hv := vHas_ev x (by omega) (i : Int)
    rw [drop_cons hi, oneOf] at ea
    rw [drop_cons hi, restOf] at eb
    refine Ev.step (fun k => by simp only [laws_FnGroups.l0]; exact rfl) (ifp (by omega) ?_)
    rw [wrapS hi (by omega), rdL hi]
    refine Ev.bind hv ?_
    by_cases c : (i : Int) ∈ x
    · rw [if_pos c] at ea eb
      refine ifp (decide_eq_true c) (ifp (by omega) (ifp (by omega) ?_))
      exact ih _ _ (by rw [List.append_assoc]; exact ea) eb (by rw [List.length_append, List.length_singleton]; omega) (by omega)
    · rw [if_neg c] at ea eb
      refine ifn (by simp [c]) (ifp (by omega) (ifp (by omega) ?_))
      exact ih _ _ ea (by rw [List.append_assoc]; exact eb) (by omega) (by rw [List.length_append, List.length_singleton]; omega)
theorem FnGroups : laws_FnGroups.Pure := by
  intro l _ hl hb
  refine Ev.rounds ?_
  unfold laws_FnGroups.f
  refine somb (vBig_eq l) (ifc (fun _ => done rfl) fun hbig => ?_)
  have hlen : l.length ≤ 65536 := by simpa using hbig
  have by_ := bytes_of hb
  obtain ⟨row, p, d1, n1⟩ := DrawZeroGroups_ev by_
  obtain ⟨b1, t1, k1, _⟩ := vCut_ev by_ hlen 1 (by omega)
  obtain ⟨u, q, d2, n2⟩ := DrawCountZero_ev k1
  obtain ⟨b2, t2, k2, _⟩ := vCut_ev by_ hlen 2 (by omega)
  obtain ⟨v, d3, n3⟩ := DrawSplitAlike_ev k2
  obtain ⟨r, g1, g2, g3, g4⟩ := groups_both row (by omega) p
  obtain ⟨m, m1, m2, m3⟩ := count_both u (by omega) q
  obtain ⟨s1, s2⟩ := split_ev v (by omega)
  have hs := split_len v
  have ht : Ev (fun k => laws_vTable.f k r.1 r.1) true := by
    cases hq : r.2 with
    | false => rw [g4 hq]; exact vTable_ev [] (by simp) (fun x hx => by cases hx)
    | true =>
      obtain ⟨hr, hp, e⟩ := g3 hq
      have hn := (rowV hr).n
      rw [e]
      exact vTable_ev _ (by have := Zs_len row hn p; omega) (fun x hx => by have := (Zs_mem hx).1; omega)
  have j2 := j2_ev row p r g3
  have j0 : Ev (fun k => laws_FnGroups.j0 k row p r.1 r.2 v (split v).1 (split v).2 false) true := by
    refine Ev.step (fun k => by simp only [laws_FnGroups.j0]; exact rfl) (ifn Bool.false_ne_true ?_)
    cases hq : (split v).2 with
    | false => exact ifn Bool.false_ne_true j2
    | true => exact ifp (Eq.refl true) (l0_ev row p r.1 r.2 v (split v).1 (by rw [← hq]) j2 0 (Nat.zero_le _) [] [] rfl rfl (Nat.le_refl _) (Nat.le_refl _))
  have hne : ∀ b : Bool, ¬ ((b != b) = true) := by intro b; cases b <;> decide
  refine Ev.bind d1 (Ev.bind g2 (Ev.bind g1 (somb t1 (Ev.bind d2 (Ev.bind m2 (Ev.bind m1 (somb t2 (Ev.bind d3 (Ev.bind s2 (Ev.bind s1 (ifn (hne _) (Ev.bind ht (ifp (Eq.refl true) (ifp (Eq.refl _) (ifn (hne _) (ifn (hne _) (Ev.bind (vInts_ev _ (by omega)) (ifp (Eq.refl true) ?_))))))))))))))))))
  cases hm : m.2 with
  | false => exact ifn Bool.false_ne_true j0
  | true =>
    have := m3 hm
    have hd : decide (m.1 < 1) = false := decide_eq_false (by omega)
    rw [hd]
    exact ifp (Eq.refl true) j0
end Go.Proofs.Ytdbccenmfdjkjaa.Pure
