/- One move and one swap, in the program and in the reference alike, and what they say of the row. No conditions beyond those of the lemmas' own hypotheses. -/
import Derived.Test.YtdbccenmfdjkjaaMoment
import Derived.Test.YtdbccenmfdjkjaaXMex7
import Derived.Test.YtdbccenmfdjkjaaXMex5
import Derived.Test.YtdbccenmfdjkjaaXMex9
import Derived.Test.YtdbccenmfdjkjaaXMex8
import Derived.Test.YtdbccenmfdjkjaaXMex10
namespace Go.Proofs.Ytdbccenmfdjkjaa.PureMend
open Go.RowKit Go.Proofs.Ytdbccenmfdjkjaa.XMe Go.Proofs.Ytdbccenmfdjkjaa.Plain Go.Proofs.Ytdbccenmfdjkjaa.PureRow Go.Proofs.Ytdbccenmfdjkjaa.PureMoment Go.Proofs.YtdbccenmfdjkjaaW.PrintWords Go.Proofs.YtdbccenmfdjkjaaW.PrintLast Go.Proofs.YtdbccenmfdjkjaaW.PrintMore
set_option linter.unusedVariables false
theorem nof {P : Prop} (h : false = true) : P := nomatch h
/-- What a move that is found says. -/
def MoveSay (l : List Ld) (p : Int) (r : Int × Int × Bool) : Prop := r.2.2 = true → ∃ (i : Nat) (h : i < l.length), r.1 = (i : Int) ∧ Int.tmod (mom p l) l[i].f1 = 0 ∧ r.2.1 = l[i].f0 - Int.tdiv (mom p l) l[i].f1 ∧ Pl r.2.1 = true
/-- What a swap that is found says. -/
def SwapSay (l : List Ld) (p : Int) (r : Int × Int × Bool) : Prop := r.2.2 = true → ∃ (i j : Nat) (hi : i < l.length) (hj : j < l.length), i < j ∧ r.1 = (i : Int) ∧ r.2.1 = (j : Int) ∧ mom p l + (l[i].f1 - l[j].f1) * (l[j].f0 - l[i].f0) = 0
theorem tdiv_abs {a : Int} (b : Int) (hb : 1 ≤ b) (A : Int) (h0 : -A ≤ a) (h1 : a ≤ A) : -A ≤ Int.tdiv a b ∧ Int.tdiv a b ≤ A := by
  have h := Int.natAbs_tdiv_le_natAbs a b
  omega
theorem small_mul {a b A B : Int} (h0 : -A ≤ a) (h1 : a ≤ A) (h2 : -B ≤ b) (h3 : b ≤ B) : -A * B ≤ a * b ∧ a * b ≤ A * B := by
  have p1 : 0 ≤ (A - a) * (B - b) := Int.mul_nonneg (by omega) (by omega)
  have p2 : 0 ≤ (A + a) * (B + b) := Int.mul_nonneg (by omega) (by omega)
  have p3 : 0 ≤ (A - a) * (B + b) := Int.mul_nonneg (by omega) (by omega)
  have p4 : 0 ≤ (A + a) * (B - b) := Int.mul_nonneg (by omega) (by omega)
  rw [Int.sub_mul, Int.mul_sub, Int.mul_sub] at p1
  rw [Int.add_mul, Int.mul_add, Int.mul_add] at p2
  rw [Int.sub_mul, Int.mul_add, Int.mul_add] at p3
  rw [Int.add_mul, Int.mul_sub, Int.mul_sub] at p4
  rw [Int.neg_mul]
  omega
theorem move_loops (l : List Ld) (h : RowV l) (p : Int) (hp : 0 ≤ p ∧ p ≤ 60) : ∀ i, i ≤ l.length → ∃ r, Ev (fun k => spec_OneMove.l0 k l p (i : Int)) r ∧ Ev (fun k => impl_OneMove.l0 k (mom p l) l (l.length : Int) (i : Int)) r ∧ MoveSay l p r := by
  have hn := h.n
  refine downTo l.length ?_ ?_
  · exact ⟨(0, 0, false), Ev.step (fun k => by simp only [spec_OneMove.l0]; exact rfl) (ifn (by omega) (done rfl)), Ev.step (fun k => by simp only [impl_OneMove.l0]; exact rfl) (ifn (by omega) (done rfl)), fun h => nof h⟩
  · rintro i hi ⟨r, e1, e2, e3⟩
    have hx := h.each l[i] (List.getElem_mem hi)
    have hm := l2Moment_ev h hp
    have hw : ¬ (rd_T41 l (i : Int)).f1 = 0 := by rw [rdL hi]; omega
    have hi0 : 0 ≤ (i : Int) := by omega
    have hil : (i : Int) < (l.length : Int) := by omega
    have e1' : Ev (fun k => spec_OneMove.l0 k l p (wrap64 ((i : Int) + 1))) r := by rw [wrapS hi (by omega)]; exact e1
    have e2' : Ev (fun k => impl_OneMove.l0 k (mom p l) l (l.length : Int) (wrap64 ((i : Int) + 1))) r := by rw [wrapS hi (by omega)]; exact e2
    by_cases ht : Int.tmod (mom p l) (rd_T41 l (i : Int)).f1 = 0
    · have hq := l2In_eq (wrap64 (((rd_T41 l (i : Int)).f0) - (wrap64 (Int.tdiv (mom p l) ((rd_T41 l (i : Int)).f1)))))
      have hq2 := isPlace_eq (wrap64 (((rd_T41 l (i : Int)).f0) - (wrap64 (Int.tdiv (mom p l) ((rd_T41 l (i : Int)).f1)))))
      cases hb : Pl (wrap64 (((rd_T41 l (i : Int)).f0) - (wrap64 (Int.tdiv (mom p l) ((rd_T41 l (i : Int)).f1))))) with
      | true =>
        rw [hb] at hq hq2
        refine ⟨((i : Int), wrap64 (((rd_T41 l (i : Int)).f0) - (wrap64 (Int.tdiv (mom p l) ((rd_T41 l (i : Int)).f1)))), true), Ev.step (fun k => by simp only [spec_OneMove.l0]; exact rfl) ?_, Ev.step (fun k => by simp only [impl_OneMove.l0]; exact rfl) ?_, fun _ => ⟨i, hi, rfl, ?_, ?_, hb⟩⟩
        · refine ifp hil (Ev.bind hm (ifp hi0 (ifn hw (ifp ht (somb hq ?_)))))
          exact ifp (Eq.refl true) (done rfl)
        · refine ifp hil (ifp hi0 (ifp hil (ifn hw (ifp ht (somb hq2 ?_)))))
          exact ifp (Eq.refl true) (done rfl)
        · rw [rdL hi] at ht; exact ht
        · have hb1 := mom_le p hp l h.each
          have hb2 := tdiv_abs (a := mom p l) l[i].f1 hx.2.2.1 100000 (by omega) (by omega)
          rw [rdL hi]
          show wrap64 (l[i].f0 - wrap64 (Int.tdiv (mom p l) l[i].f1)) = _
          rw [w64 (x := Int.tdiv (mom p l) l[i].f1) (by omega) (by omega), w64 (by omega) (by omega)]
      | false =>
        rw [hb] at hq hq2
        exact ⟨r, Ev.step (fun k => by simp only [spec_OneMove.l0]; exact rfl) (ifp hil (Ev.bind hm (ifp hi0 (ifn hw (ifp ht (somb hq (ifn Bool.false_ne_true e1'))))))), Ev.step (fun k => by simp only [impl_OneMove.l0]; exact rfl) (ifp hil (ifp hi0 (ifp hil (ifn hw (ifp ht (somb hq2 (ifn Bool.false_ne_true e2'))))))), e3⟩
    · exact ⟨r, Ev.step (fun k => by simp only [spec_OneMove.l0]; exact rfl) (ifp hil (Ev.bind hm (ifp hi0 (ifn hw (ifn ht e1'))))), Ev.step (fun k => by simp only [impl_OneMove.l0]; exact rfl) (ifp hil (ifp hi0 (ifp hil (ifn hw (ifn ht e2'))))), e3⟩
theorem move_both (l : List Ld) (hn : l.length ≤ 140737488355328) (p : Int) : ∃ r, Ev (fun k => spec_OneMove.f k l p) r ∧ Ev (fun k => impl_OneMove.f k l p) r ∧ (r.2.2 = true → RowOK l = true ∧ Pl p = true ∧ mom p l ≠ 0) ∧ MoveSay l p r := by
  have h1 := l2Row_ev l hn
  have h2 := offMoment_ev l hn p
  have no : Ev (fun k => spec_OneMove.j0 k l p true) (0, 0, false) := Ev.step (fun k => by simp only [spec_OneMove.j0]; exact rfl) (ifp (Eq.refl true) (done rfl))
  unfold spec_OneMove.f impl_OneMove.f
  cases hr : RowOK l with
  | false =>
    rw [hr] at h1 h2
    exact ⟨(0, 0, false), Ev.bind h1 (ifn Bool.false_ne_true no), Ev.bind h2 (ifn Bool.false_ne_true (done rfl)), fun h => nof h, fun h => nof h⟩
  | true =>
    cases hp : Pl p with
    | false =>
      rw [hr] at h1
      rw [hr, hp] at h2
      exact ⟨(0, 0, false), Ev.bind h1 (ifp (Eq.refl true) (somb (l2In_eq p) (ifn (by rw [hp]; exact Bool.false_ne_true) no))), Ev.bind h2 (ifn Bool.false_ne_true (done rfl)), fun h => nof h, fun h => nof h⟩
    | true =>
      rw [hr] at h1
      rw [hr, hp] at h2
      have hm := l2Moment_ev (rowV hr) (plV hp)
      by_cases h0 : mom p l = 0
      · rw [h0] at hm h2
        exact ⟨(0, 0, false), Ev.bind h1 (ifp (Eq.refl true) (somb (l2In_eq p) (ifp hp (Ev.bind hm no)))), Ev.bind h2 (ifn Bool.false_ne_true (done rfl)), fun h => nof h, fun h => nof h⟩
      · obtain ⟨r, e1, e2, e3⟩ := move_loops l (rowV hr) p (plV hp) 0 (Nat.zero_le _)
        have hb : (mom p l == 0) = false := beq_eq_false_iff_ne.2 h0
        have hb2 : (mom p l != 0) = true := bne_iff_ne.2 h0
        have go : Ev (fun k => spec_OneMove.j0 k l p (mom p l == 0)) r := by
          rw [hb]
          exact Ev.step (fun k => by simp only [spec_OneMove.j0]; exact rfl) (ifn Bool.false_ne_true e1)
        exact ⟨r, Ev.bind h1 (ifp (Eq.refl true) (somb (l2In_eq p) (ifp hp (Ev.bind hm go)))), Ev.bind h2 (ifp hb2 e2), fun _ => ⟨rfl, rfl, h0⟩, e3⟩
theorem swap_inner (l : List Ld) (h : RowV l) (p : Int) (hp : 0 ≤ p ∧ p ≤ 60) (i : Nat) (hi : i < l.length) (r : Int × Int × Bool) (e1 : Ev (fun k => spec_OneSwap.l0 k l p ((i + 1 : Nat) : Int)) r) (e2 : Ev (fun k => impl_OneSwap.l0 k l (mom p l) l (l.length : Int) ((i + 1 : Nat) : Int)) r) (e3 : SwapSay l p r) :
    ∀ j, j ≤ l.length → i < j → ∃ r, Ev (fun k => spec_OneSwap.l1 k l p (i : Int) (j : Int)) r ∧ Ev (fun k => impl_OneSwap.l1 k l (mom p l) (i : Int) (j : Int) l (l.length : Int) (i : Int) (rd_T41 l (i : Int)).f0 (rd_T41 l (i : Int)).f1) r ∧ SwapSay l p r := by
  have hn := h.n
  refine downTo l.length ?_ ?_
  · intro hij
    refine ⟨r, Ev.step (fun k => by simp only [spec_OneSwap.l1]; exact rfl) (ifn (by omega) ?_), Ev.step (fun k => by simp only [impl_OneSwap.l1]; exact rfl) (ifn (by omega) ?_), e3⟩
    · rw [wrapS hi (by omega)]; exact e1
    · rw [wrapS hi (by omega)]; exact e2
  · intro j hj ih hij
    obtain ⟨r2, f1, f2, f3⟩ := ih (by omega)
    have hm := l2Moment_ev h hp
    have hi0 : 0 ≤ (i : Int) := by omega
    have hil : (i : Int) < (l.length : Int) := by omega
    have hj0 : 0 ≤ (j : Int) := by omega
    have hjl : (j : Int) < (l.length : Int) := by omega
    by_cases hc : (wrap64 (mom p l + (wrap64 ((wrap64 (((rd_T41 l (i : Int)).f1) - ((rd_T41 l (j : Int)).f1))) * (wrap64 (((rd_T41 l (j : Int)).f0) - ((rd_T41 l (i : Int)).f0))))))) = 0
    · refine ⟨((i : Int), (j : Int), true), Ev.step (fun k => by simp only [spec_OneSwap.l1]; exact rfl) (ifp hjl (ifp hi0 (ifp hil (ifp hj0 (Ev.bind hm (ifp hc (done rfl))))))), Ev.step (fun k => by simp only [impl_OneSwap.l1]; exact rfl) (ifp hjl (ifp hj0 (ifp hc (done rfl)))), fun _ => ⟨i, j, hi, hj, hij, rfl, rfl, ?_⟩⟩
      rw [rdL hi, rdL hj] at hc
      have hx := h.each l[i] (List.getElem_mem hi)
      have hy := h.each l[j] (List.getElem_mem hj)
      have hb1 := mom_le p hp l h.each
      have q1 : -98 * 60 ≤ (l[i].f1 - l[j].f1) * (l[j].f0 - l[i].f0) ∧ (l[i].f1 - l[j].f1) * (l[j].f0 - l[i].f0) ≤ 98 * 60 := small_mul (by omega) (by omega) (by omega) (by omega)
      rw [w64 (x := l[i].f1 - l[j].f1) (by omega) (by omega), w64 (x := l[j].f0 - l[i].f0) (by omega) (by omega)] at hc
      generalize (l[i].f1 - l[j].f1) * (l[j].f0 - l[i].f0) = y at *
      rw [w64 (x := y) (by omega) (by omega), w64 (by omega) (by omega)] at hc
      exact hc
    · refine ⟨r2, Ev.step (fun k => by simp only [spec_OneSwap.l1]; exact rfl) (ifp hjl (ifp hi0 (ifp hil (ifp hj0 (Ev.bind hm (ifn hc ?_)))))), Ev.step (fun k => by simp only [impl_OneSwap.l1]; exact rfl) (ifp hjl (ifp hj0 (ifn hc ?_))), f3⟩
      · rw [wrapS hj (by omega)]; exact f1
      · rw [wrapS hj (by omega)]; exact f2
theorem swap_loops (l : List Ld) (h : RowV l) (p : Int) (hp : 0 ≤ p ∧ p ≤ 60) : ∀ i, i ≤ l.length → ∃ r, Ev (fun k => spec_OneSwap.l0 k l p (i : Int)) r ∧ Ev (fun k => impl_OneSwap.l0 k l (mom p l) l (l.length : Int) (i : Int)) r ∧ SwapSay l p r := by
  have hn := h.n
  refine downTo l.length ?_ ?_
  · exact ⟨(0, 0, false), Ev.step (fun k => by simp only [spec_OneSwap.l0]; exact rfl) (ifn (by omega) (done rfl)), Ev.step (fun k => by simp only [impl_OneSwap.l0]; exact rfl) (ifn (by omega) (done rfl)), fun h => nof h⟩
  · rintro i hi ⟨r, e1, e2, e3⟩
    have hi0 : 0 ≤ (i : Int) := by omega
    have hil : (i : Int) < (l.length : Int) := by omega
    obtain ⟨r2, f1, f2, f3⟩ := swap_inner l h p hp i hi r e1 e2 e3 (i + 1) (by omega) (by omega)
    refine ⟨r2, Ev.step (fun k => by simp only [spec_OneSwap.l0]; exact rfl) (ifp hil ?_), Ev.step (fun k => by simp only [impl_OneSwap.l0]; exact rfl) (ifp hil (ifp hi0 (ifp hil ?_))), f3⟩
    · rw [wrapS hi (by omega)]; exact f1
    · rw [wrapS hi (by omega)]; exact f2
theorem swap_both (l : List Ld) (hn : l.length ≤ 140737488355328) (p : Int) : ∃ r, Ev (fun k => spec_OneSwap.f k l p) r ∧ Ev (fun k => impl_OneSwap.f k l p) r ∧ (r.2.2 = true → RowOK l = true ∧ Pl p = true) ∧ SwapSay l p r := by
  have h1 := l2Row_ev l hn
  have h2 := offMoment_ev l hn p
  have no : Ev (fun k => spec_OneSwap.j0 k l p true) (0, 0, false) := Ev.step (fun k => by simp only [spec_OneSwap.j0]; exact rfl) (ifp (Eq.refl true) (done rfl))
  unfold spec_OneSwap.f impl_OneSwap.f
  cases hr : RowOK l with
  | false =>
    rw [hr] at h1 h2
    exact ⟨(0, 0, false), Ev.bind h1 (ifn Bool.false_ne_true no), Ev.bind h2 (ifn Bool.false_ne_true (done rfl)), fun h => nof h, fun h => nof h⟩
  | true =>
    cases hp : Pl p with
    | false =>
      rw [hr] at h1
      rw [hr, hp] at h2
      exact ⟨(0, 0, false), Ev.bind h1 (ifp (Eq.refl true) (somb (l2In_eq p) (ifn (by rw [hp]; exact Bool.false_ne_true) no))), Ev.bind h2 (ifn Bool.false_ne_true (done rfl)), fun h => nof h, fun h => nof h⟩
    | true =>
      rw [hr] at h1
      rw [hr, hp] at h2
      have hm := l2Moment_ev (rowV hr) (plV hp)
      by_cases h0 : mom p l = 0
      · rw [h0] at hm h2
        exact ⟨(0, 0, false), Ev.bind h1 (ifp (Eq.refl true) (somb (l2In_eq p) (ifp hp (Ev.bind hm no)))), Ev.bind h2 (ifn Bool.false_ne_true (done rfl)), fun h => nof h, fun h => nof h⟩
      · obtain ⟨r, e1, e2, e3⟩ := swap_loops l (rowV hr) p (plV hp) 0 (Nat.zero_le _)
        have hb : (mom p l == 0) = false := beq_eq_false_iff_ne.2 h0
        have hb2 : (mom p l != 0) = true := bne_iff_ne.2 h0
        have go : Ev (fun k => spec_OneSwap.j0 k l p (mom p l == 0)) r := by
          rw [hb]
          exact Ev.step (fun k => by simp only [spec_OneSwap.j0]; exact rfl) (ifn Bool.false_ne_true e1)
        exact ⟨r, Ev.bind h1 (ifp (Eq.refl true) (somb (l2In_eq p) (ifp hp (Ev.bind hm go)))), Ev.bind h2 (ifp hb2 e2), fun _ => ⟨rfl, rfl⟩, e3⟩
/-- The weight of loads. -/
def wt : List Ld → Int
  | [] => 0
  | x :: r => x.f1 + wt r
theorem weight_l0 {l : List Ld} (h : RowV l) : ∀ i, i ≤ l.length → ∀ acc : Int, 0 ≤ acc ∧ acc ≤ 99 * (i : Int) → Ev (fun k => impl_weightOf.l0 k acc l (l.length : Int) (i : Int)) (acc + wt (l.drop i)) := by
  have hn := h.n
  refine downTo l.length ?_ ?_
  · intro acc ha
    rw [List.drop_length]
    exact Ev.step (fun k => by simp only [impl_weightOf.l0]; exact rfl) (ifn (by omega) (done (by simp [wt])))
  · intro i hi ih acc ha
    have h2 := h.each l[i] (List.getElem_mem hi)
    refine Ev.step (fun k => by simp only [impl_weightOf.l0]; exact rfl) (ifp (by omega) (ifp (by omega) (ifp (by omega) ?_)))
    rw [rdL hi, w64 (by omega) (by omega), wrapS hi (by omega), drop_cons hi, wt, ← Int.add_assoc]
    exact ih _ (by omega)
theorem WeightOf_ev (l : List Ld) (hn : l.length ≤ 140737488355328) (hr : RowOK l = true) : Ev (fun k => impl_WeightOf.f k l) (wt l, true) := by
  unfold impl_WeightOf.f
  have h1 := isRow_ev l hn
  rw [hr] at h1
  have := weight_l0 (rowV hr) 0 (Nat.zero_le _) 0 (by simp)
  refine Ev.bind h1 (ifp (Eq.refl true) (Ev.bind (a := wt l) ?_ (done rfl)))
  simpa [impl_weightOf.f] using this
/-! ### rows in which a place is changed -/
theorem mom_set (p : Int) : ∀ (l : List Ld) (i : Nat) (h : i < l.length) (t : Int), mom p (l.set i ⟨t, l[i].f1⟩) = mom p l + l[i].f1 * (t - l[i].f0) := by
  intro l
  induction l with
  | nil => intro i h; simp at h
  | cons x r ih =>
    intro i h t
    cases i with
    | zero =>
      simp only [List.set_cons_zero, mom, List.getElem_cons_zero]
      have : x.f1 * (t - p) = x.f1 * (x.f0 - p) + x.f1 * (t - x.f0) := by rw [← Int.mul_add]; congr 1; omega
      omega
    | succ i =>
      simp only [List.set_cons_succ, mom, List.getElem_cons_succ]
      rw [ih i (by simpa using h) t]
      omega
theorem wt_set : ∀ (l : List Ld) (i : Nat) (h : i < l.length) (t : Int), wt (l.set i ⟨t, l[i].f1⟩) = wt l := by
  intro l
  induction l with
  | nil => intro i h; simp at h
  | cons x r ih =>
    intro i h t
    cases i with
    | zero => simp only [List.set_cons_zero, wt, List.getElem_cons_zero]
    | succ i =>
      simp only [List.set_cons_succ, wt, List.getElem_cons_succ]
      rw [ih i (by simpa using h) t]
theorem ok_set {l : List Ld} (h : RowOK l = true) {i : Nat} (hi : i < l.length) {t : Int} (ht : Pl t = true) : RowOK (l.set i ⟨t, l[i].f1⟩) = true := by
  unfold RowOK at *
  simp only [Bool.and_eq_true, decide_eq_true_eq, List.all_eq_true] at *
  refine ⟨by rw [List.length_set]; exact h.1, fun x hx => ?_⟩
  rcases List.mem_or_eq_of_mem_set hx with hx | hx
  · exact h.2 x hx
  · subst hx
    have := h.2 l[i] (List.getElem_mem hi)
    unfold LdOK at *
    simp only [Bool.and_eq_true] at *
    exact ⟨ht, this.2⟩
end Go.Proofs.Ytdbccenmfdjkjaa.PureMend
