/- What ReachGain comes to, in the reference and in the program: the first of the fewest stages. No conditions beyond those of the lemmas' own hypotheses. -/
import Derived.Test.YtbjilpmnhghfhaaStage
import Derived.Test.YtbjilpmnhghfhaaChoices
import Derived.Test.YtbjilpmnhghfhaaXGax7
import Derived.Test.YtbjilpmnhghfhaaXGax5
import Derived.Test.YtbjilpmnhghfhaaXGax18
import Derived.Test.YtbjilpmnhghfhaaXGax20
namespace Go.Proofs.Ytbjilpmnhghfhaa.PureGainReach
open Go.RowKit Go.Proofs.Ytbjilpmnhghfhaa.XGa Go.Proofs.Ytbjilpmnhghfhaa.Plain Go.Proofs.Ytbjilpmnhghfhaa.PureStage Go.Proofs.Ytbjilpmnhghfhaa.PureChoices Go.Proofs.YtbjilpmnhghfhaaW.PrintWords Go.Proofs.YtbjilpmnhghfhaaW.PrintLast Go.Proofs.YtbjilpmnhghfhaaW.PrintMore
set_option linter.unusedVariables false

/-- The stages at some places. -/
def pk (kit : List St) (q : List Int) : List St := q.map fun x => rd_T37 kit x
theorem rd_ok {kit : List St} (h : ∀ x ∈ kit, OK x = true) {x : Int} (h0 : 0 ≤ x) (h1 : x < (kit.length : Int)) : OK (rd_T37 kit x) = true := by
  obtain ⟨n, rfl⟩ := Int.eq_ofNat_of_zero_le h0
  have hn : n < kit.length := by omega
  rw [rdS hn]
  exact h _ (List.getElem_mem hn)
theorem pk_V {kit : List St} (h : ∀ x ∈ kit, OK x = true) {q : List Int} (v : Val kit.length q) (hq : q.length ≤ 5) : ChainV (pk kit q) := by
  refine ⟨by unfold pk; rw [List.length_map]; exact hq, fun x hx => ?_⟩
  obtain ⟨y, hy, rfl⟩ := List.mem_map.1 hx
  exact rd_ok h (v y hy).1 (v y hy).2
/-- Does a choice of stages do? -/
def good (g : Int) (kit : List St) (q : List Int) : Bool := decide ((cg (pk kit q)).1 ≥ wrap64 (g * (cg (pk kit q)).2))
theorem picked_l0 (kit : List St) (q : List Int) (v : Val kit.length q) (hq : q.length ≤ 1000) : ∀ i, i ≤ q.length → Ev (fun k => spec_l7Picked.l0 k kit q (pk kit (q.take i)) (i : Int)) (pk kit q) := by
  refine downTo q.length ?_ ?_
  · refine Ev.step (fun k => by simp only [spec_l7Picked.l0]; exact rfl) (ifn (by omega) (done ?_))
    rw [List.take_length]
  · intro i hi ih
    obtain ⟨h0, h1⟩ := v q[i] (List.getElem_mem hi)
    have hl : (pk kit (q.take i)).length = i := by unfold pk; rw [List.length_map, List.length_take]; omega
    refine Ev.step (fun k => by simp only [spec_l7Picked.l0]; exact rfl) (ifp (by omega) (ifp (by omega) ?_))
    rw [rd_lt hi]
    refine ifp h0 (ifp h1 (ifp (by omega) ?_))
    rw [wrapS hi (by omega)]
    rw [take_succ hi] at ih
    unfold pk at ih ⊢
    rw [List.map_append] at ih
    exact ih
theorem picked_ev (kit : List St) (q : List Int) (v : Val kit.length q) (hq : q.length ≤ 1000) : Ev (fun k => spec_l7Picked.f k kit q) (pk kit q) := picked_l0 kit q v hq 0 (Nat.zero_le _)

def ans : Option (List Int) → List Int × Bool
  | some q => (q, true)
  | none => ([], false)
/-- All choices of so many places and more. -/
def C (n t m : Nat) : List (List Int) := (List.range' m (t + 1 - m)).flatMap (SS n)
theorem C_nil (n t : Nat) : C n t (t + 1) = [] := by unfold C; rw [Nat.sub_self]; rfl
theorem C_cons {n t m : Nat} (h : m < t + 1) : C n t m = SS n m ++ C n t (m + 1) := by
  unfold C
  rw [show t + 1 - m = (t + 1 - (m + 1)) + 1 from by omega, List.range'_succ, List.flatMap_cons]
def top (n : Nat) : Nat := if n < 5 then n else 5
theorem find_l1 (g : Int) (kit : List St) (hn : kit.length ≤ 8) (hk : ∀ x ∈ kit, OK x = true) (m : Nat) (hm : m ≤ 5) (o : Option (List Int)) (ho : Ev (fun k => spec_l7Find.l0 k kit g false ((m + 1 : Nat) : Int)) (ans o)) :
    ∀ j, j ≤ (SS kit.length m).length → Ev (fun k => spec_l7Find.l1 k kit g false (m : Int) (SS kit.length m) (j : Int)) (ans ((((SS kit.length m).drop j).find? (good g kit)).or o)) := by
  have hl := SS_small hn hm
  refine downTo (SS kit.length m).length ?_ ?_
  · refine Ev.step (fun k => by simp only [spec_l7Find.l1]; exact rfl) (ifn (by omega) ?_)
    rw [w64 (by omega) (by omega), List.drop_length, show (m : Int) + 1 = ((m + 1 : Nat) : Int) from by omega]
    exact ho
  · intro j hj ih
    obtain ⟨hq, hv⟩ := SS_mem kit.length m _ (List.getElem_mem hj)
    have hc := pk_V hk hv (by omega)
    have hw := wrapS hj (by omega)
    refine Ev.step (fun k => by simp only [spec_l7Find.l1]; exact rfl) (ifp (by omega) (ifp (by omega) ?_))
    rw [rdL3_lt hj, hw]
    refine Ev.bind (picked_ev kit _ hv (by omega)) (Ev.bind (l7Chain_ev hc) ?_)
    rw [drop_cons hj]
    have yes : good g kit (SS kit.length m)[j] = true → ans ((((SS kit.length m)[j] :: (SS kit.length m).drop (j + 1)).find? (good g kit)).or o) = ((SS kit.length m)[j], true) := by
      intro h; rw [List.find?_cons_of_pos h]; rfl
    have nope : ¬ good g kit (SS kit.length m)[j] = true → ans ((((SS kit.length m)[j] :: (SS kit.length m).drop (j + 1)).find? (good g kit)).or o) = ans ((((SS kit.length m).drop (j + 1)).find? (good g kit)).or o) := by
      intro h; rw [List.find?_cons_of_neg h]
    by_cases e : (cg (pk kit (SS kit.length m)[j])).1 = wrap64 (g * (cg (pk kit (SS kit.length m)[j])).2)
    · rw [yes (by unfold good; simp [e])]
      exact ifp e (done rfl)
    · refine ifn e (ifn Bool.false_ne_true (ifc (fun h => ?_) (fun h => ?_)))
      · rw [yes (by unfold good; exact decide_eq_true (by omega))]; exact done rfl
      · rw [nope (by unfold good; rw [decide_eq_false (by omega)]; exact Bool.false_ne_true)]; exact ih
theorem find_l0 (g : Int) (kit : List St) (hn : kit.length ≤ 8) (hk : ∀ x ∈ kit, OK x = true) : ∀ m, m ≤ top kit.length + 1 → Ev (fun k => spec_l7Find.l0 k kit g false (m : Int)) (ans ((C kit.length (top kit.length) m).find? (good g kit))) := by
  have ht : top kit.length ≤ 5 ∧ top kit.length ≤ kit.length ∧ (kit.length = top kit.length ∨ top kit.length = 5) := by unfold top; split <;> omega
  refine downTo (top kit.length + 1) ?_ ?_
  · rw [C_nil]
    have no : Ev (fun k => spec_l7Find.j1 k kit g false ((top kit.length + 1 : Nat) : Int) false) (ans ([].find? (good g kit))) := Ev.step (fun k => by simp only [spec_l7Find.j1]; exact rfl) (ifn Bool.false_ne_true (done rfl))
    refine Ev.step (fun k => by simp only [spec_l7Find.l0]; exact rfl) (ifc (fun h => ?_) (fun h => no))
    rw [decide_eq_false (by omega)]; exact no
  · intro m hm ih
    rw [C_cons hm, List.find?_append]
    have key := find_l1 g kit hn hk m (by omega) _ ih 0 (Nat.zero_le _)
    rw [List.drop_zero] at key
    refine Ev.step (fun k => by simp only [spec_l7Find.l0]; exact rfl) (ifp (by omega) ?_)
    rw [decide_eq_true (show (m : Int) ≤ 5 by omega)]
    refine Ev.step (fun k => by simp only [spec_l7Find.j1]; exact rfl) (ifp (Eq.refl true) (Ev.bind (l7Sets_ev kit.length m hn (by omega)) ?_))
    exact key

/-! ### the program -/
def Tells (r : List Int × Bool) : Option (List Int) → Prop
  | some q => r = (q, true)
  | none => r.2 = false
theorem chosen_l0 (g : Int) (kit : List St) (hk : ∀ x ∈ kit, OK x = true) (p : List Int) (v : Val kit.length p) (hp : p.length ≤ 5) : ∀ i, i ≤ p.length → Ev (fun k => impl_chosen_ReachGain_1.l0 g k kit p (pk kit (p.take i)) p (p.length : Int) (i : Int)) (p, good g kit p) := by
  refine downTo p.length ?_ ?_
  · refine Ev.step (fun k => by simp only [impl_chosen_ReachGain_1.l0]; exact rfl) (ifn (by omega) ?_)
    rw [List.take_length]
    exact Ev.bind (chainGain_ev (pk_V hk v hp)) (somb rfl (done rfl))
  · intro i hi ih
    obtain ⟨h0, h1⟩ := v p[i] (List.getElem_mem hi)
    have hl : (pk kit (p.take i)).length = i := by unfold pk; rw [List.length_map, List.length_take]; omega
    refine Ev.step (fun k => by simp only [impl_chosen_ReachGain_1.l0]; exact rfl) (ifp (by omega) (ifp (by omega) (ifp (by omega) ?_)))
    rw [rd_lt hi]
    refine ifp h0 (ifp h1 (ifp (by omega) ?_))
    rw [wrapS hi (by omega)]
    rw [take_succ hi] at ih
    unfold pk at ih ⊢
    rw [List.map_append] at ih
    exact ih
theorem chosen_ev (g : Int) (kit : List St) (hn : kit.length ≤ 8) (hk : ∀ x ∈ kit, OK x = true) : ∀ m : Nat, ∀ p : List Int, Val kit.length p → p.length + m ≤ 5 → ∃ r, Ev (fun k => impl_chosen_ReachGain_1.f g k kit p (m : Int)) r ∧ Tells r ((E kit.length m p).find? (good g kit)) := by
  intro m
  induction m with
  | zero =>
    intro p v hp
    refine ⟨(p, good g kit p), Ev.step (fun k => by simp only [impl_chosen_ReachGain_1.f]; exact rfl) (ifp (by omega) (chosen_l0 g kit hk p v (by omega) 0 (Nat.zero_le _))), ?_⟩
    show Tells _ ([p].find? (good g kit))
    cases h : good g kit p with
    | true => rw [List.find?_cons_of_pos h]; rfl
    | false => rw [List.find?_cons_of_neg (by rw [h]; exact Bool.false_ne_true)]; rfl
  | succ m ih =>
    intro p v hp
    have loop : ∀ i, i ≤ kit.length → ∃ r, Ev (fun k => impl_chosen_ReachGain_1.l1 g k kit p ((m + 1 : Nat) : Int) (i : Int)) r ∧ Tells r (((R kit.length i).flatMap fun i : Nat => E kit.length m (p ++ [(i : Int)])).find? (good g kit)) := by
      refine downTo kit.length ?_ ?_
      · refine ⟨([], false), Ev.step (fun k => by simp only [impl_chosen_ReachGain_1.l1]; exact rfl) (ifn (by omega) (done rfl)), ?_⟩
        rw [R_nil]; rfl
      · rintro i hi ⟨r, e, t⟩
        obtain ⟨r1, e1, t1⟩ := ih (p ++ [(i : Int)]) (val_snoc v hi) (by rw [List.length_append, List.length_singleton]; omega)
        have hm : wrap64 (((m + 1 : Nat) : Int) - 1) = (m : Int) := by rw [w64 (by omega) (by omega)]; omega
        rw [R_cons hi, List.flatMap_cons, List.find?_append]
        have start : ∀ r2, Ev (fun k => if r1.2 = true then some (r1.1, true) else impl_chosen_ReachGain_1.l1 g k kit p ((m + 1 : Nat) : Int) (wrap64 ((i : Int) + 1))) r2 → Ev (fun k => impl_chosen_ReachGain_1.l1 g k kit p ((m + 1 : Nat) : Int) (i : Int)) r2 := by
          intro r2 h2
          refine Ev.step (fun k => by simp only [impl_chosen_ReachGain_1.l1]; exact rfl) (ifp (by omega) (somb rfl (ifp (by simp only [List.length_nil]; omega) (somb rfl (ifp (by simp only [List.nil_append]; omega) ?_)))))
          rw [hm, List.nil_append]
          exact Ev.bind e1 h2
        cases ho : (E kit.length m (p ++ [(i : Int)])).find? (good g kit) with
        | some q =>
          rw [ho] at t1
          have t2 : r1 = (q, true) := t1
          subst t2
          exact ⟨(q, true), start _ (ifp (Eq.refl true) (done rfl)), rfl⟩
        | none =>
          rw [ho] at t1
          have t2 : r1.2 = false := t1
          refine ⟨r, start _ (ifn (by rw [t2]; exact Bool.false_ne_true) ?_), t⟩
          rw [wrapS hi (by omega)]; exact e
    obtain ⟨r, e, t⟩ := loop (nx p) (nx_le v)
    have e' : Ev (fun k => impl_chosen_ReachGain_1.j1 g k kit p ((m + 1 : Nat) : Int) ((nx p : Nat) : Int)) r := Ev.step (fun k => by rw [impl_chosen_ReachGain_1.j1]) e
    refine ⟨r, Ev.step (fun k => by simp only [impl_chosen_ReachGain_1.f]; exact rfl) (ifn (by omega) ?_), t⟩
    by_cases hz : p.length = 0
    · have e0 : nx p = 0 := by unfold nx; rw [if_pos hz]
      rw [e0] at e'
      exact ifn (by omega) e'
    · have lv := last_val v (by omega)
      have hw : wrap64 ((p.length : Int) - 1) = ((p.length - 1 : Nat) : Int) := by rw [w64 (by omega) (by omega)]; omega
      have e0 : ((nx p : Nat) : Int) = rd p ((p.length - 1 : Nat) : Int) + 1 := by unfold nx; rw [if_neg hz]; omega
      rw [e0] at e'
      rw [hw]
      refine ifp (by omega) (ifp (by omega) (ifp (by omega) ?_))
      rw [w64 (by omega) (by omega)]
      exact e'
theorem fewest_l1 (g : Int) (kit : List St) (hn : kit.length ≤ 8) (hk : ∀ x ∈ kit, OK x = true) : ∀ m, m ≤ top kit.length + 1 → Ev (fun k => impl_fewest_ReachGain_1.l1 g k kit (m : Int)) (ans ((C kit.length (top kit.length) m).find? (good g kit))) := by
  have ht : top kit.length ≤ 5 ∧ mn 5 (kit.length : Int) = (top kit.length : Int) := by unfold top mn; repeat' split <;> omega
  refine downTo (top kit.length + 1) ?_ ?_
  · rw [C_nil]
    refine Ev.step (fun k => by simp only [impl_fewest_ReachGain_1.l1]; exact rfl) ?_
    rw [ht.2]
    exact ifn (by omega) (done rfl)
  · intro m hm ih
    rw [C_cons hm, List.find?_append, ← E_SS]
    obtain ⟨r, e, t⟩ := chosen_ev g kit hn hk m [] (fun x hx => by cases hx) (by simp only [List.length_nil]; omega)
    refine Ev.step (fun k => by simp only [impl_fewest_ReachGain_1.l1]; exact rfl) ?_
    rw [ht.2]
    refine ifp (by omega) (Ev.bind e ?_)
    cases ho : (E kit.length m []).find? (good g kit) with
    | some q =>
      rw [ho] at t
      have t2 : r = (q, true) := t
      subst t2
      exact ifp (Eq.refl true) (done rfl)
    | none =>
      rw [ho] at t
      have t2 : r.2 = false := t
      refine ifn (by rw [t2]; exact Bool.false_ne_true) ?_
      rw [w64 (by omega) (by omega), show (m : Int) + 1 = ((m + 1 : Nat) : Int) from by omega]
      exact ih
theorem fewest_l0 (g : Int) (kit : List St) (hn : kit.length ≤ 8) (hk : ∀ x ∈ kit, OK x = true) : ∀ i, i ≤ kit.length → Ev (fun k => impl_fewest_ReachGain_1.l0 g k kit kit (kit.length : Int) (i : Int)) (ans ((C kit.length (top kit.length) 0).find? (good g kit))) := by
  refine downTo kit.length ?_ ?_
  · exact Ev.step (fun k => by simp only [impl_fewest_ReachGain_1.l0]; exact rfl) (ifn (by omega) (fewest_l1 g kit hn hk 0 (by omega)))
  · intro i hi ih
    refine Ev.step (fun k => by simp only [impl_fewest_ReachGain_1.l0]; exact rfl) (ifp (by omega) (ifp (by omega) (ifp (by omega) ?_)))
    rw [rdS hi]
    refine Ev.bind (IsStage_ev _ _ _) (ifp (hk _ (List.getElem_mem hi)) ?_)
    rw [wrapS hi (by omega)]; exact ih
theorem fewest_bad (g : Int) (kit : List St) (hn : kit.length ≤ 8) : ∀ i, i ≤ kit.length → (kit.drop i).all OK = false → Ev (fun k => impl_fewest_ReachGain_1.l0 g k kit kit (kit.length : Int) (i : Int)) ([], false) := by
  refine downTo kit.length ?_ ?_
  · intro h; rw [List.drop_length] at h; cases h
  · intro i hi ih h
    rw [drop_cons hi, List.all_cons] at h
    refine Ev.step (fun k => by simp only [impl_fewest_ReachGain_1.l0]; exact rfl) (ifp (by omega) (ifp (by omega) (ifp (by omega) ?_)))
    rw [rdS hi]
    refine Ev.bind (IsStage_ev _ _ _) ?_
    show Ev (fun k => if OK kit[i] = true then _ else _) _
    cases hx : OK kit[i] with
    | true => rw [hx, Bool.true_and] at h; refine ifp rfl ?_; rw [wrapS hi (by omega)]; exact ih h
    | false => exact ifn Bool.false_ne_true (done rfl)

/-- Are a list and a gain valid? -/
def KitOK (kit : List St) (g : Int) : Bool := (kit.all OK && decide (kit.length ≤ 8)) && decide (1 ≤ g ∧ g ≤ 1000000)
/-- The fewest stages, of several the first ones. -/
def few (g : Int) (kit : List St) : List Int × Bool := if KitOK kit g = true then ans ((C kit.length (top kit.length) 0).find? (good g kit)) else ([], false)
theorem spec_ev (kit : List St) (hl : kit.length ≤ 140737488355328) (g : Int) : Ev (fun k => spec_ReachGain.f k kit g) (few g kit) := by
  have h1 := l7Stages_ev kit 8 hl
  have e8 : ChainOK kit 8 = (kit.all OK && decide (kit.length ≤ 8)) := by unfold ChainOK; congr 1; simp only [decide_eq_decide]; omega
  rw [e8] at h1
  unfold spec_ReachGain.f spec_l7Kit.f few KitOK
  rw [l1In_eq]
  cases hr : (kit.all OK && decide (kit.length ≤ 8)) with
  | false =>
    rw [hr] at h1
    rw [Bool.false_and, if_neg Bool.false_ne_true]
    exact Ev.bind (Ev.bind h1 (ifn Bool.false_ne_true (done rfl))) (ifn Bool.false_ne_true (done rfl))
  | true =>
    rw [hr] at h1
    have hk : (∀ x ∈ kit, OK x = true) ∧ kit.length ≤ 8 := by
      simp only [Bool.and_eq_true, decide_eq_true_eq, List.all_eq_true] at hr; exact hr
    rw [Bool.true_and]
    cases hg : decide (1 ≤ g ∧ g ≤ 1000000) with
    | false => rw [if_neg Bool.false_ne_true]; exact Ev.bind (Ev.bind h1 (ifp (Eq.refl true) (somb rfl (done rfl)))) (ifn Bool.false_ne_true (done rfl))
    | true => rw [if_pos rfl]; exact Ev.bind (Ev.bind h1 (ifp (Eq.refl true) (somb rfl (done rfl)))) (ifp (Eq.refl true) (Ev.bind (find_l0 g kit hk.2 hk.1 0 (by omega)) (done rfl)))
theorem impl_ev (kit : List St) (hl : kit.length ≤ 140737488355328) (g : Int) : Ev (fun k => impl_ReachGain.f k kit g) (few g kit) := by
  unfold impl_ReachGain.f impl_fewest_ReachGain_1.f few KitOK
  rw [within_eq]
  have no : Ev (fun k => impl_fewest_ReachGain_1.j0 g k kit true) ([], false) := Ev.step (fun k => by simp only [impl_fewest_ReachGain_1.j0]; exact rfl) (ifp (Eq.refl true) (done rfl))
  by_cases h8 : kit.length ≤ 8
  · refine ifn (by omega) (somb rfl ?_)
    cases hg : decide (1 ≤ g ∧ g ≤ 1000000) with
    | false => rw [Bool.and_false, if_neg Bool.false_ne_true]; exact no
    | true =>
      rw [decide_eq_true h8, Bool.and_true, Bool.and_true]
      refine Ev.step (fun k => by simp only [impl_fewest_ReachGain_1.j0]; exact rfl) (ifn (by decide) ?_)
      cases ha : kit.all OK with
      | false => rw [if_neg Bool.false_ne_true]; exact fewest_bad g kit h8 0 (Nat.zero_le _) ha
      | true => rw [if_pos rfl]; exact fewest_l0 g kit h8 (by simpa using ha) 0 (Nat.zero_le _)
  · rw [decide_eq_false h8, Bool.and_false, Bool.false_and, if_neg Bool.false_ne_true]
    exact ifp (by omega) no
theorem C_mem (n t : Nat) : ∀ m, m ≤ t + 1 → ∀ q ∈ C n t m, q.length ≤ t ∧ Val n q := by
  refine downTo (t + 1) ?_ ?_
  · intro q hq; rw [C_nil] at hq; cases hq
  · intro m hm ih q hq
    rw [C_cons hm, List.mem_append] at hq
    rcases hq with hq | hq
    · obtain ⟨h1, h2⟩ := SS_mem n m q hq
      exact ⟨by omega, h2⟩
    · exact ih q hq
theorem few_len (g : Int) (kit : List St) : (few g kit).1.length ≤ 5 := by
  unfold few
  split
  · cases h : (C kit.length (top kit.length) 0).find? (good g kit) with
    | none => simp [ans]
    | some q =>
      have := (C_mem kit.length (top kit.length) 0 (by omega) q (List.mem_of_find?_eq_some h)).1
      have ht : top kit.length ≤ 5 := by unfold top; split <;> omega
      show q.length ≤ 5
      omega
  · simp
end Go.Proofs.Ytbjilpmnhghfhaa.PureGainReach
