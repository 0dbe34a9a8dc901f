/- What the checks of rows come to, and the copies of rows that the law makes, in plain lists. No conditions beyond those of the lemmas' own hypotheses. -/
import Derived.Test.YtdbccenmfdjkjaaPlain
import Derived.Test.YtdbccenmfdjkjaaXZgx1
import Derived.Test.YtdbccenmfdjkjaaXZgx3
import Derived.Test.YtdbccenmfdjkjaaXZgx6
import Derived.Test.YtdbccenmfdjkjaaXZgx10
import Derived.Test.YtdbccenmfdjkjaaXZgx5
namespace Go.Proofs.Ytdbccenmfdjkjaa.PureRow
open Go.RowKit Go.Proofs.Ytdbccenmfdjkjaa.XZg Go.Proofs.Ytdbccenmfdjkjaa.Plain Go.Proofs.YtdbccenmfdjkjaaW.PrintWords Go.Proofs.YtdbccenmfdjkjaaW.PrintLast Go.Proofs.YtdbccenmfdjkjaaW.PrintMore
set_option linter.unusedVariables false

abbrev Ld := S41
theorem rdL {l : List Ld} {i : Nat} (h : i < l.length) : rd_T41 l (i : Int) = l[i] := by
  unfold rd_T41; rw [Int.toNat_natCast]; exact getD_lt h _
abbrev LLd := S69
def cv (x : LLd) : Ld := ⟨x.f0, x.f1⟩
theorem rdLL {l : List LLd} {i : Nat} (h : i < l.length) : rd_T69 l (i : Int) = l[i] := by
  unfold rd_T69; rw [Int.toNat_natCast]; exact getD_lt h _

/-! ### numbers within bounds -/
theorem l1In_eq (a b c : Int) : spec_l1In.f a b c = some (decide (b ≤ a ∧ a ≤ c)) := by
  unfold spec_l1In.f
  by_cases h : b ≤ a
  · rw [if_pos h]; simp [h]
  · rw [if_neg h]; simp [h]
theorem within_eq (a b c : Int) : impl_within.f a b c = some (decide (b ≤ a ∧ a ≤ c)) := by
  unfold impl_within.f
  by_cases h : b ≤ a
  · rw [if_pos h]; simp [h]
  · rw [if_neg h]; simp [h]
def Pl (p : Int) : Bool := decide (0 ≤ p ∧ p ≤ 60)
theorem l2In_eq (p : Int) : spec_l2In.f p = some (Pl p) := by unfold spec_l2In.f Pl; rw [l1In_eq]; rfl
theorem isPlace_eq (p : Int) : impl_isPlace.f p = some (Pl p) := by unfold impl_isPlace.f Pl; rw [within_eq]; rfl
def Wt (p : Int) : Bool := decide (1 ≤ p ∧ p ≤ 99)
theorem isWeight_eq (p : Int) : impl_isWeight.f p = some (Wt p) := by unfold impl_isWeight.f Wt; rw [within_eq]; rfl
def LdOK (x : Ld) : Bool := Pl x.f0 && Wt x.f1
def RowOK (l : List Ld) : Bool := decide (l.length ≤ 12) && l.all LdOK

theorem l2Row_l0 (l : List Ld) (hn : l.length ≤ 140737488355328) : ∀ i, i ≤ l.length → Ev (fun k => spec_l2Row.l0 k l (i : Int)) (decide (l.length ≤ 12) && (l.drop i).all LdOK) := by
  refine downTo l.length ?_ ?_
  · refine Ev.step (fun k => by simp only [spec_l2Row.l0]; exact rfl) (ifn (by omega) ?_)
    refine Ev.step (fun k => by simp only [spec_l2Row.j1]; exact rfl) (ifn (by decide) (done ?_))
    simp
    by_cases h : l.length ≤ 12 <;> simp [h] <;> omega
  · intro i hi ih
    refine Ev.step (fun k => by simp only [spec_l2Row.l0]; exact rfl) (ifp (by omega) ?_)
    refine Ev.step (fun k => by simp only [spec_l2Row.j1]; exact rfl) ?_
    by_cases h12 : i ≤ 12
    · refine ifp (by simp; omega) (ifp (by omega) (ifp (by omega) ?_))
      rw [rdL hi]
      refine somb (l2In_eq _) ?_
      rw [drop_cons hi, List.all_cons]
      have e : LdOK l[i] = (Pl l[i].f0 && Wt l[i].f1) := rfl
      cases hp : Pl l[i].f0 with
      | false => refine ifn (by simp) (done ?_); rw [e, hp]; simp
      | true =>
        refine ifp rfl (somb (l1In_eq _ _ _) ?_)
        have e2 : decide (1 ≤ l[i].f1 ∧ l[i].f1 ≤ 99) = Wt l[i].f1 := rfl
        rw [e2]
        cases hw : Wt l[i].f1 with
        | false => refine ifn (by simp) (done ?_); rw [e, hp, hw]; simp
        | true =>
          refine ifp rfl ?_
          rw [wrapS hi hn, e, hp, hw]
          simpa using ih
    · refine ifn (by simp; omega) (done ?_)
      have : ¬ l.length ≤ 12 := by omega
      simp [this]
      omega
theorem l2Row_ev (l : List Ld) (hn : l.length ≤ 140737488355328) : Ev (fun k => spec_l2Row.f k l) (RowOK l) := by
  have := l2Row_l0 l hn 0 (Nat.zero_le _)
  simpa [RowOK, spec_l2Row.f] using this

theorem isRow1_eq (x : Ld) : impl_IsRow_1.f x.f0 x.f1 = some (!LdOK x) := by
  unfold impl_IsRow_1.f LdOK
  rw [isPlace_eq, isWeight_eq]
  cases Pl x.f0 <;> simp
theorem idx_l0 (l : List Ld) (hn : l.length ≤ 140737488355328) : ∀ i, i ≤ l.length → ∃ r : Int, Ev (fun k => slices_IndexFunc_IsRow_1.l0 k l (l.length : Int) (i : Int)) r ∧ decide (r ≥ 0) = !((l.drop i).all LdOK) := by
  refine downTo l.length ?_ ?_
  · refine ⟨-1, Ev.step (fun k => by simp only [slices_IndexFunc_IsRow_1.l0]; exact rfl) (ifn (by omega) (done rfl)), by simp⟩
  · rintro i hi ⟨r, ih, hr⟩
    cases hx : LdOK l[i] with
    | false =>
      refine ⟨(i : Int), Ev.step (fun k => by simp only [slices_IndexFunc_IsRow_1.l0]; exact rfl) (ifp (by omega) (ifp (by omega) (ifp (by omega) ?_))), ?_⟩
      · rw [rdL hi]
        exact somb (isRow1_eq _) (ifp (by rw [hx]; rfl) (done rfl))
      · rw [drop_cons hi, List.all_cons, hx]; simp
    | true =>
      refine ⟨r, Ev.step (fun k => by simp only [slices_IndexFunc_IsRow_1.l0]; exact rfl) (ifp (by omega) (ifp (by omega) (ifp (by omega) ?_))), ?_⟩
      · rw [rdL hi]
        refine somb (isRow1_eq _) (ifn (by rw [hx]; decide) ?_)
        rw [wrapS hi hn]; exact ih
      · rw [drop_cons hi, List.all_cons, hx]; simpa using hr
theorem isRow_ev (l : List Ld) (hn : l.length ≤ 140737488355328) : Ev (fun k => impl_IsRow.f k l) (RowOK l) := by
  unfold impl_IsRow.f RowOK
  by_cases h : l.length ≤ 12
  · refine ifn (by omega) ?_
    obtain ⟨r, hr, e⟩ := idx_l0 l hn 0 (Nat.zero_le _)
    have h1 : Ev (fun k => slices_ContainsFunc_IsRow_1.f k l) (!l.all LdOK) := by
      unfold slices_ContainsFunc_IsRow_1.f slices_IndexFunc_IsRow_1.f
      exact Ev.bind hr (done (by simpa using e))
    refine Ev.bind h1 (done ?_)
    simp [h]
  · exact ifp (by omega) (done (by simp [h]))

/-! ### copies, and what is alike -/
theorem toLoadS_l0 (l : List LLd) (hn : l.length ≤ 17592186044416) : ∀ i, i ≤ l.length → ∀ xs : List Ld, xs.length = l.length → xs.take i = (l.take i).map cv → Ev (fun k => laws_toLoadS.l0 k l xs (i : Int)) (l.map cv) := by
  refine downTo l.length ?_ ?_
  · intro xs hl hx
    refine Ev.step (fun k => by simp only [laws_toLoadS.l0]; exact rfl) (ifn (by omega) (done ?_))
    rw [← hl, List.take_length] at hx
    rw [hx, hl, List.take_length]
  · intro i hi ih xs hl hx
    refine Ev.step (fun k => by simp only [laws_toLoadS.l0]; exact rfl) (ifp (by omega) (ifp (by omega) ?_))
    rw [rdLL hi]
    refine somb (a := (l[i].f0, l[i].f1)) rfl (ifp (by omega) ?_)
    rw [wrapS hi (by omega), Int.toNat_natCast]
    refine ih _ (by rw [List.length_set]; exact hl) ?_
    rw [take_set_succ _ (by omega), hx, take_succ hi, List.map_append]
    rfl
theorem toLoadS_ev (l : List LLd) (hn : l.length ≤ 17592186044416) : Ev (fun k => laws_toLoadS.f k l) (l.map cv) := by
  unfold laws_toLoadS.f
  refine ifp (by omega) (ifp (by omega) ?_)
  exact toLoadS_l0 l hn 0 (Nat.zero_le _) _ (by simp) (by simp)
theorem eqLoad_eq (a b c d : Int) : laws_eqLoad.f a b c d = some (decide (a = c ∧ b = d)) := by
  unfold laws_eqLoad.f
  by_cases h : a = c <;> by_cases h2 : b = d <;> simp [h, h2]
theorem eqLoadS_l0 (l : List Ld) (hn : l.length ≤ 140737488355328) : ∀ i, i ≤ l.length → Ev (fun k => laws_eqLoadS.l0 k l l (i : Int)) true := by
  refine downTo l.length ?_ ?_
  · exact Ev.step (fun k => by simp only [laws_eqLoadS.l0]; exact rfl) (ifn (by omega) (done rfl))
  · intro i hi ih
    refine Ev.step (fun k => by simp only [laws_eqLoadS.l0]; exact rfl) (ifp (by omega) (ifp (by omega) (ifp (by omega) ?_)))
    refine somb (eqLoad_eq _ _ _ _) (ifp (by simp) ?_)
    rw [wrapS hi hn]; exact ih
theorem eqLoadS_ev (l : List Ld) (hn : l.length ≤ 140737488355328) : Ev (fun k => laws_eqLoadS.f k l l) true := by
  unfold laws_eqLoadS.f
  exact ifp rfl (eqLoadS_l0 l hn 0 (Nat.zero_le _))
theorem szLoadS_eq (l : List LLd) (hn : l.length * 16 ≤ 140737488351232) : ∃ r : Int, laws_szLoadS.f l 1048576 = some r ∧ (¬ r < 0 → l.length ≤ 1048576) := by
  unfold laws_szLoadS.f
  rw [w64 (by omega) (by omega)]
  by_cases h : (1048576 : Int) - (l.length : Int) < 0
  · rw [if_pos h]; exact ⟨-1, rfl, fun h => absurd (by decide) h⟩
  · rw [if_neg h]; exact ⟨_, rfl, fun _ => by omega⟩
end Go.Proofs.Ytdbccenmfdjkjaa.PureRow
