/- The pulls, hauls and gains of chains told outright, in the program and in the reference alike. No conditions beyond those of the lemmas' own hypotheses. -/
import Derived.Test.YtbjilpmnhghfhaaLows
import Derived.Test.YtbjilpmnhghfhaaXChx8
import Derived.Test.YtbjilpmnhghfhaaXChx11
import Derived.Test.YtbjilpmnhghfhaaXChx12
import Derived.Test.YtbjilpmnhghfhaaXChx13
import Derived.Test.YtbjilpmnhghfhaaXChx14
namespace Go.Proofs.Ytbjilpmnhghfhaa.PureChainVals
open Go.RowKit Go.Proofs.Ytbjilpmnhghfhaa.XCh Go.Proofs.Ytbjilpmnhghfhaa.Plain Go.Proofs.Ytbjilpmnhghfhaa.PureStage Go.Proofs.Ytbjilpmnhghfhaa.PureLows Go.Proofs.YtbjilpmnhghfhaaW.PrintWords Go.Proofs.YtbjilpmnhghfhaaW.PrintLast Go.Proofs.YtbjilpmnhghfhaaW.PrintMore
set_option linter.unusedVariables false
set_option linter.unusedSimpArgs false
abbrev Ce := S41
theorem chainOk {l : List St} (v : ChainV l) : ChainOK l 5 = true := by
  have hn := v.n
  unfold ChainOK; simp only [Bool.and_eq_true, decide_eq_true_eq, List.all_eq_true]; exact ⟨v.each, by omega⟩
/-- What is asked of a chain and a load. -/
structure AskV (l : List St) (p : Int) : Prop where
  v : ChainV l
  p0 : 0 ≤ p
  p1 : p ≤ 1000000
theorem ask_of {l : List St} {p : Int} (h : (ChainOK l 5 && Hl p) = true) : AskV l p := by
  obtain ⟨h1, h2⟩ := Bool.and_eq_true_iff.1 h
  have hb : 0 ≤ p ∧ p ≤ 1000000 := of_decide_eq_true h2
  exact ⟨chainV h1, hb.1, hb.2⟩
theorem AskV.ok {l : List St} {p : Int} (h : AskV l p) : (ChainOK l 5 && Hl p) = true := by
  rw [chainOk h.v, Bool.true_and]
  exact decide_eq_true ⟨h.p0, h.p1⟩
structure Nums (p n d A B : Int) : Prop where
  n0 : 1 ≤ n
  n1 : n ≤ 254803968
  d0 : 1 ≤ d
  d1 : d ≤ 7962624
  A0 : 0 ≤ A
  A1 : A ≤ 7962624000000
  B0 : 1 ≤ B
  B1 : B ≤ 254803968
  g : ∃ g : Int, 1 ≤ g ∧ p * d = g * A ∧ n = g * B
theorem nums {l : List St} {p : Int} (h : AskV l p) : Nums p (cg l).1 (cg l).2 (cut (p * (cg l).2) (cg l).1).1 (cut (p * (cg l).2) (cg l).1).2 := by
  obtain ⟨⟨g1, g2⟩, g3, g4⟩ := cg_range h.v
  have m0 : 0 ≤ p * (cg l).2 := Int.mul_nonneg h.p0 (by omega)
  have m1 : p * (cg l).2 ≤ 1000000 * 7962624 := Int.mul_le_mul h.p1 g4 (by omega) (by omega)
  have gp := gd_pos (a := p * (cg l).2) g1
  have n0 : 0 ≤ (cut (p * (cg l).2) (cg l).1).1 := Int.ediv_nonneg m0 (by omega)
  have n1 : (cut (p * (cg l).2) (cg l).1).1 ≤ 1000000 * 7962624 := Int.le_trans (Int.ediv_le_self _ m0) m1
  have d0 : 0 < (cut (p * (cg l).2) (cg l).1).2 := Int.ediv_pos_of_pos_of_dvd (by omega) (by omega) (gd_dvd_right _ (by omega))
  have d1 : (cut (p * (cg l).2) (cg l).1).2 ≤ 254803968 := Int.le_trans (Int.ediv_le_self _ (by omega)) g2
  exact ⟨g1, g2, g3, g4, n0, by omega, by omega, d1, cut_mul m0 g1⟩

/-! ### pulls -/
def PF (l : List St) (p : Int) : Int × Int × Bool := if (ChainOK l 5 && Hl p) = true then ((cut (p * (cg l).2) (cg l).1).1, (cut (p * (cg l).2) (cg l).1).2, true) else (0, 0, false)
theorem PF_ask {l : List St} {p : Int} (h : AskV l p) : PF l p = ((cut (p * (cg l).2) (cg l).1).1, (cut (p * (cg l).2) (cg l).1).2, true) := if_pos h.ok
theorem PF_not {l : List St} {p : Int} (h : ¬ (ChainOK l 5 && Hl p) = true) : PF l p = (0, 0, false) := if_neg h
theorem sPull_ev (l : List St) (hn : l.length ≤ 140737488355328) (p : Int) : Ev (fun k => spec_PullFor.f k l p) (PF l p) := by
  have h1 := l7Ask_ev l p hn
  unfold spec_PullFor.f
  refine Ev.bind h1 ?_
  by_cases h : (ChainOK l 5 && Hl p) = true
  · have a := ask_of h
    rw [PF_ask a]
    obtain ⟨⟨g1, g2⟩, g3, g4⟩ := cg_range a.v
    have m0 : 0 ≤ p * (cg l).2 := Int.mul_nonneg a.p0 (by omega)
    have m1 : p * (cg l).2 ≤ 1000000 * 7962624 := Int.mul_le_mul a.p1 g4 (by omega) (by omega)
    refine ifp h (Ev.bind (l7Chain_ev a.v) ?_)
    rw [w64 (x := p * (cg l).2) (by omega) (by omega)]
    exact Ev.bind (l2Cut_ev m0 (by omega) g1 (by omega)) (done rfl)
  · rw [PF_not h]; exact ifn h (done rfl)
theorem iPull_ev (l : List St) (hn : l.length ≤ 140737488355328) (p : Int) : Ev (fun k => impl_PullFor.f k l p) (PF l p) := by
  have h2 := isChain_ev l hn
  unfold impl_PullFor.f
  refine Ev.bind h2 ?_
  have no : Ev (fun k => impl_PullFor.j0 k l p true) (0, 0, false) := Ev.step (fun k => by simp only [impl_PullFor.j0]; exact rfl) (ifp (Eq.refl true) (done rfl))
  by_cases h : (ChainOK l 5 && Hl p) = true
  · have a := ask_of h
    rw [PF_ask a]
    obtain ⟨⟨g1, g2⟩, g3, g4⟩ := cg_range a.v
    obtain ⟨c1, c2⟩ := Bool.and_eq_true_iff.1 h
    have m0 : 0 ≤ p * (cg l).2 := Int.mul_nonneg a.p0 (by omega)
    have m1 : p * (cg l).2 ≤ 1000000 * 7962624 := Int.mul_le_mul a.p1 g4 (by omega) (by omega)
    refine ifp c1 (somb (isHaul_eq p) ?_)
    rw [c2]
    refine Ev.step (fun k => by simp only [impl_PullFor.j0]; exact rfl) (ifn (by decide) (Ev.bind (chainGain_ev a.v) ?_))
    rw [w64 (x := p * (cg l).2) (by omega) (by omega)]
    exact Ev.bind (fraction_ev m0 (by omega) g1 (by omega)) (done rfl)
  · rw [PF_not h]
    by_cases c : ChainOK l 5 = true
    · refine ifp c (somb (isHaul_eq p) ?_)
      cases hp : Hl p with
      | true => rw [c, hp] at h; exact absurd rfl h
      | false => exact no
    · exact ifn c no

/-! ### least pulls -/
theorem ceil_eq {a b : Int} (hb : 1 ≤ b) {q : Int} : (a + b - 1) / b = q ↔ a ≤ q * b ∧ q * b < a + b := by
  rw [Int.ediv_eq_iff_of_pos (by omega)]
  constructor
  · intro h
    have : (q + 1) * b = q * b + b := by rw [Int.add_mul, Int.one_mul]
    omega
  · intro h
    have : (q + 1) * b = q * b + b := by rw [Int.add_mul, Int.one_mul]
    omega
theorem ceil_same {g a b : Int} (hg : 1 ≤ g) (hb : 1 ≤ b) : (g * a + g * b - 1) / (g * b) = (a + b - 1) / b := by
  have gb : 1 ≤ g * b := (mul_le hg (Int.le_refl _) hb (Int.le_refl _)).1
  rw [ceil_eq gb]
  obtain ⟨h1, h2⟩ := (ceil_eq hb (a := a)).1 rfl
  generalize (a + b - 1) / b = q at *
  have e : q * (g * b) = g * (q * b) := by simp only [Int.mul_left_comm]
  rw [e, ← Int.mul_add]
  exact ⟨Int.mul_le_mul_of_nonneg_left h1 (by omega), Int.mul_lt_mul_of_pos_left h2 (by omega)⟩
def LP (l : List St) (p : Int) : Int × Bool := if (ChainOK l 5 && Hl p) = true then (((cut (p * (cg l).2) (cg l).1).1 + (cut (p * (cg l).2) (cg l).1).2 - 1) / (cut (p * (cg l).2) (cg l).1).2, true) else (0, false)
theorem LP_ask {l : List St} {p : Int} (h : AskV l p) : LP l p = (((cut (p * (cg l).2) (cg l).1).1 + (cut (p * (cg l).2) (cg l).1).2 - 1) / (cut (p * (cg l).2) (cg l).1).2, true) := if_pos h.ok
theorem LP_not {l : List St} {p : Int} (h : ¬ (ChainOK l 5 && Hl p) = true) : LP l p = (0, false) := if_neg h
theorem iLeast_ev (l : List St) (hn : l.length ≤ 140737488355328) (p : Int) : Ev (fun k => impl_LeastPull.f k l p) (LP l p) := by
  have h1 := iPull_ev l hn p
  unfold impl_LeastPull.f
  refine Ev.bind h1 ?_
  by_cases h : (ChainOK l 5 && Hl p) = true
  · have a := ask_of h
    have m := nums a
    rw [PF_ask a, LP_ask a]
    generalize (cut (p * (cg l).2) (cg l).1).1 = A at *
    generalize (cut (p * (cg l).2) (cg l).1).2 = B at *
    obtain ⟨n0, n1, d0, d1, A0, A1, B0, B1, _⟩ := m
    have q0 : 0 ≤ (A + B - 1) / B := Int.ediv_nonneg (by omega) (by omega)
    have q1 : (A + B - 1) / B ≤ A + B - 1 := Int.ediv_le_self _ (by omega)
    refine ifp (Eq.refl true) (ifn (by show ¬ B = 0; omega) (done ?_))
    show (wrap64 (Int.tdiv (wrap64 (wrap64 (A + B) - 1)) B), true) = _
    rw [w64 (x := A + B) (by omega) (by omega), w64 (x := A + B - 1) (by omega) (by omega), Int.tdiv_eq_ediv_of_nonneg (by omega), w64 (by omega) (by omega)]
  · rw [PF_not h, LP_not h]; exact ifn Bool.false_ne_true (done rfl)
theorem sLeast_ev (l : List St) (hn : l.length ≤ 140737488355328) (p : Int) : Ev (fun k => spec_LeastPull.f k l p) (LP l p) := by
  have h1 := l7Ask_ev l p hn
  unfold spec_LeastPull.f
  refine Ev.bind h1 ?_
  by_cases h : (ChainOK l 5 && Hl p) = true
  · have a := ask_of h
    have m := nums a
    have m1 : p * (cg l).2 ≤ 1000000 * 7962624 := Int.mul_le_mul a.p1 m.d1 (by have := m.d0; omega) (by omega)
    have m0 : 0 ≤ p * (cg l).2 := Int.mul_nonneg a.p0 (by have := m.d0; omega)
    rw [LP_ask a]
    refine ifp h (Ev.bind (l7Chain_ev a.v) ?_)
    generalize (cut (p * (cg l).2) (cg l).1).1 = A at *
    generalize (cut (p * (cg l).2) (cg l).1).2 = B at *
    generalize (cg l).1 = n at *
    generalize (cg l).2 = d at *
    obtain ⟨n0, n1, d0, d1, A0, A1, B0, B1, g, hg, e1, e2⟩ := m
    have q0 : 0 ≤ (A + B - 1) / B := Int.ediv_nonneg (by omega) (by omega)
    have q1 : (A + B - 1) / B ≤ A + B - 1 := Int.ediv_le_self _ (by omega)
    have c := ceil_same hg B0 (a := A)
    rw [← e1, ← e2] at c
    refine ifn (by omega) (done ?_)
    rw [w64 (x := p * d) (by omega) (by omega), w64 (x := p * d + n) (by omega) (by omega), w64 (x := p * d + n - 1) (by omega) (by omega), Int.tdiv_eq_ediv_of_nonneg (by omega), c, w64 (by omega) (by omega)]
  · rw [LP_not h]; exact ifn h (done rfl)

/-! ### hauls and loads -/
def HF (l : List St) (p : Int) : Int × Int × Bool := if (ChainOK l 5 && Hl p) = true then ((cut (p * (cg l).1) (cg l).2).1, (cut (p * (cg l).1) (cg l).2).2, true) else (0, 0, false)
theorem HF_ask {l : List St} {p : Int} (h : AskV l p) : HF l p = ((cut (p * (cg l).1) (cg l).2).1, (cut (p * (cg l).1) (cg l).2).2, true) := if_pos h.ok
theorem HF_not {l : List St} {p : Int} (h : ¬ (ChainOK l 5 && Hl p) = true) : HF l p = (0, 0, false) := if_neg h
theorem sHaul_ev (l : List St) (hn : l.length ≤ 140737488355328) (p : Int) : Ev (fun k => spec_HaulFor.f k l p) (HF l p) := by
  have h1 := l7Ask_ev l p hn
  unfold spec_HaulFor.f
  refine Ev.bind h1 ?_
  by_cases h : (ChainOK l 5 && Hl p) = true
  · have a := ask_of h
    rw [HF_ask a]
    obtain ⟨⟨g1, g2⟩, g3, g4⟩ := cg_range a.v
    have m0 : 0 ≤ p * (cg l).1 := Int.mul_nonneg a.p0 (by omega)
    have m1 : p * (cg l).1 ≤ 1000000 * 254803968 := Int.mul_le_mul a.p1 g2 (by omega) (by omega)
    refine ifp h (Ev.bind (l7Chain_ev a.v) ?_)
    rw [w64 (x := p * (cg l).1) (by omega) (by omega)]
    exact Ev.bind (l2Cut_ev m0 (by omega) g3 (by omega)) (done rfl)
  · rw [HF_not h]; exact ifn h (done rfl)
theorem iHaul_ev (l : List St) (hn : l.length ≤ 140737488355328) (p : Int) : Ev (fun k => impl_HaulFor.f k l p) (HF l p) := by
  have h2 := isChain_ev l hn
  unfold impl_HaulFor.f
  refine Ev.bind h2 ?_
  have no : Ev (fun k => impl_HaulFor.j0 k l p true) (0, 0, false) := Ev.step (fun k => by simp only [impl_HaulFor.j0]; exact rfl) (ifp (Eq.refl true) (done rfl))
  by_cases h : (ChainOK l 5 && Hl p) = true
  · have a := ask_of h
    rw [HF_ask a]
    obtain ⟨⟨g1, g2⟩, g3, g4⟩ := cg_range a.v
    obtain ⟨c1, c2⟩ := Bool.and_eq_true_iff.1 h
    have m0 : 0 ≤ p * (cg l).1 := Int.mul_nonneg a.p0 (by omega)
    have m1 : p * (cg l).1 ≤ 1000000 * 254803968 := Int.mul_le_mul a.p1 g2 (by omega) (by omega)
    refine ifp c1 (somb (isHaul_eq p) ?_)
    rw [c2]
    refine Ev.step (fun k => by simp only [impl_HaulFor.j0]; exact rfl) (ifn (by decide) (Ev.bind (chainGain_ev a.v) ?_))
    rw [w64 (x := p * (cg l).1) (by omega) (by omega)]
    exact Ev.bind (fraction_ev m0 (by omega) g3 (by omega)) (done rfl)
  · rw [HF_not h]
    by_cases c : ChainOK l 5 = true
    · refine ifp c (somb (isHaul_eq p) ?_)
      cases hp : Hl p with
      | true => rw [c, hp] at h; exact absurd rfl h
      | false => exact no
    · exact ifn c no
def ML (l : List St) (p : Int) : Int × Bool := if (ChainOK l 5 && Hl p) = true then (p * (cg l).1 / (cg l).2, true) else (0, false)
theorem ML_ask {l : List St} {p : Int} (h : AskV l p) : ML l p = (p * (cg l).1 / (cg l).2, true) := if_pos h.ok
theorem ML_not {l : List St} {p : Int} (h : ¬ (ChainOK l 5 && Hl p) = true) : ML l p = (0, false) := if_neg h
theorem sMost_ev (l : List St) (hn : l.length ≤ 140737488355328) (p : Int) : Ev (fun k => spec_MostLoad.f k l p) (ML l p) := by
  have h1 := l7Ask_ev l p hn
  unfold spec_MostLoad.f
  refine Ev.bind h1 ?_
  by_cases h : (ChainOK l 5 && Hl p) = true
  · have a := ask_of h
    rw [ML_ask a]
    obtain ⟨⟨g1, g2⟩, g3, g4⟩ := cg_range a.v
    have m0 : 0 ≤ p * (cg l).1 := Int.mul_nonneg a.p0 (by omega)
    have m1 : p * (cg l).1 ≤ 1000000 * 254803968 := Int.mul_le_mul a.p1 g2 (by omega) (by omega)
    refine ifp h (Ev.bind (l7Chain_ev a.v) ?_)
    rw [w64 (x := p * (cg l).1) (by omega) (by omega)]
    have q0 : 0 ≤ p * (cg l).1 / (cg l).2 := Int.ediv_nonneg m0 (by omega)
    have q1 : p * (cg l).1 / (cg l).2 ≤ p * (cg l).1 := Int.ediv_le_self _ m0
    rw [Int.tdiv_eq_ediv_of_nonneg m0, w64 (x := p * (cg l).1 / (cg l).2) (by omega) (by omega)]
    exact ifn (by omega) (done rfl)
  · rw [ML_not h]; exact ifn h (done rfl)
theorem iMost_ev (l : List St) (hn : l.length ≤ 140737488355328) (p : Int) : Ev (fun k => impl_MostLoad.f k l p) (ML l p) := by
  have h1 := iHaul_ev l hn p
  unfold impl_MostLoad.f
  refine Ev.bind h1 ?_
  by_cases h : (ChainOK l 5 && Hl p) = true
  · have a := ask_of h
    rw [HF_ask a, ML_ask a]
    obtain ⟨⟨g1, g2⟩, g3, g4⟩ := cg_range a.v
    have m0 : 0 ≤ p * (cg l).1 := Int.mul_nonneg a.p0 (by omega)
    have m1 : p * (cg l).1 ≤ 1000000 * 254803968 := Int.mul_le_mul a.p1 g2 (by omega) (by omega)
    have hq := cut_quot m0 g3
    have hg := gd_pos (a := p * (cg l).1) g3
    have c1 : 0 ≤ (cut (p * (cg l).1) (cg l).2).1 := Int.ediv_nonneg m0 (by omega)
    have c2 : 0 < (cut (p * (cg l).1) (cg l).2).2 := Int.ediv_pos_of_pos_of_dvd (by omega) (by omega) (gd_dvd_right _ (by omega))
    have c3 : ¬ (cut (p * (cg l).1) (cg l).2).2 = 0 := by omega
    have q0 : 0 ≤ p * (cg l).1 / (cg l).2 := Int.ediv_nonneg m0 (by omega)
    have q1 : p * (cg l).1 / (cg l).2 ≤ p * (cg l).1 := Int.ediv_le_self _ m0
    refine ifp (Eq.refl true) (ifn c3 (done ?_))
    show (wrap64 (Int.tdiv (cut (p * (cg l).1) (cg l).2).1 (cut (p * (cg l).1) (cg l).2).2), true) = _
    rw [Int.tdiv_eq_ediv_of_nonneg c1, hq, w64 (by omega) (by omega)]
  · rw [HF_not h, ML_not h]; exact ifn Bool.false_ne_true (done rfl)

/-! ### gains -/
def CG (l : List St) : Int × Int × Bool := if ChainOK l 5 = true then ((cg l).1, (cg l).2, true) else (0, 0, false)
theorem iGain_ev (l : List St) (hn : l.length ≤ 140737488355328) : Ev (fun k => impl_ChainGain.f k l) (CG l) := by
  have h1 := isChain_ev l hn
  unfold impl_ChainGain.f CG
  refine Ev.bind h1 ?_
  by_cases h : ChainOK l 5 = true
  · rw [if_pos h]; exact ifp h (Ev.bind (chainGain_ev (chainV h)) (done rfl))
  · rw [if_neg h]; exact ifn h (done rfl)
theorem sGain_ev (l : List St) (hn : l.length ≤ 140737488355328) : Ev (fun k => spec_ChainGain.f k l) (CG l) := by
  have h1 := l7Stages_ev l 5 hn
  unfold spec_ChainGain.f CG
  refine Ev.bind h1 ?_
  by_cases h : ChainOK l 5 = true
  · rw [if_pos h]; exact ifp h (Ev.bind (l7Chain_ev (chainV h)) (done rfl))
  · rw [if_neg h]; exact ifn h (done rfl)
def pN : List St → Int
  | [] => 1
  | x :: r => (sg x).1 * pN r
def pD : List St → Int
  | [] => 1
  | x :: r => (sg x).2 * pD r
theorem prods_pos : ∀ l : List St, (∀ x ∈ l, OK x = true) → 1 ≤ pN l ∧ 1 ≤ pD l := by
  intro l
  induction l with
  | nil => intro _; exact ⟨Int.le_refl _, Int.le_refl _⟩
  | cons x r ih =>
    intro h
    obtain ⟨i1, i2⟩ := ih (fun y hy => h y (List.mem_cons_of_mem _ hy))
    obtain ⟨⟨s1, _⟩, s3, _⟩ := sg_range (h x (List.mem_cons_self ..))
    exact ⟨(mul_le s1 (Int.le_refl _) i1 (Int.le_refl _)).1, (mul_le s3 (Int.le_refl _) i2 (Int.le_refl _)).1⟩
theorem cut_cut {a b n d : Int} (ha : 1 ≤ a) (hb : 1 ≤ b) (hn : 1 ≤ n) (hd : 1 ≤ d) : cut ((cut a b).1 * n) ((cut a b).2 * d) = cut (a * n) (b * d) := by
  obtain ⟨g, g1, g2, g3⟩ := cut_mul (show 0 ≤ a by omega) hb
  obtain ⟨⟨c1, _⟩, c3, _⟩ := cut_range ha (Int.le_refl _) hb (Int.le_refl _)
  generalize (cut a b).1 = A at *
  generalize (cut a b).2 = B at *
  have p1 := (mul_le c1 (Int.le_refl _) hn (Int.le_refl _)).1
  have p2 := (mul_le c3 (Int.le_refl _) hd (Int.le_refl _)).1
  have p3 := (mul_le ha (Int.le_refl _) hn (Int.le_refl _)).1
  have p4 := (mul_le hb (Int.le_refl _) hd (Int.le_refl _)).1
  refine cut_same (by omega) p2 (by omega) p4 ?_
  rw [g2, g3]
  simp only [Int.mul_assoc, Int.mul_left_comm, Int.mul_comm]
theorem fold_prods : ∀ (l : List St), (∀ x ∈ l, OK x = true) → ∀ a b : Int, 1 ≤ a → 1 ≤ b → l.foldl st1 (cut a b) = cut (a * pN l) (b * pD l) := by
  intro l
  induction l with
  | nil => intro _ a b _ _; simp only [List.foldl_nil, pN, pD, Int.mul_one]
  | cons x r ih =>
    intro h a b ha hb
    obtain ⟨⟨s1, _⟩, s3, _⟩ := sg_range (h x (List.mem_cons_self ..))
    have p3 := (mul_le ha (Int.le_refl _) s1 (Int.le_refl _)).1
    have p4 := (mul_le hb (Int.le_refl _) s3 (Int.le_refl _)).1
    rw [List.foldl_cons]
    have e : st1 (cut a b) x = cut (a * (sg x).1) (b * (sg x).2) := cut_cut ha hb s1 s3
    rw [e, ih (fun y hy => h y (List.mem_cons_of_mem _ hy)) _ _ p3 p4]
    simp only [pN, pD, Int.mul_assoc]
theorem cg_prods {l : List St} (h : ∀ x ∈ l, OK x = true) : cg l = cut (pN l) (pD l) := by
  have := fold_prods l h 1 1 (Int.le_refl _) (Int.le_refl _)
  rw [cut_one (by decide), Int.one_mul, Int.one_mul] at this
  exact this
theorem pN_append (a b : List St) : pN (a ++ b) = pN a * pN b := by
  induction a with
  | nil => simp [pN]
  | cons x r ih => simp only [List.cons_append, pN, ih, Int.mul_assoc]
theorem pD_append (a b : List St) : pD (a ++ b) = pD a * pD b := by
  induction a with
  | nil => simp [pD]
  | cons x r ih => simp only [List.cons_append, pD, ih, Int.mul_assoc]
theorem pN_rev (l : List St) : pN l.reverse = pN l := by
  induction l with
  | nil => rfl
  | cons x r ih => rw [List.reverse_cons, pN_append, ih]; simp only [pN, Int.mul_one, Int.one_mul, Int.mul_comm]
theorem pD_rev (l : List St) : pD l.reverse = pD l := by
  induction l with
  | nil => rfl
  | cons x r ih => rw [List.reverse_cons, pD_append, ih]; simp only [pD, Int.mul_one, Int.one_mul, Int.mul_comm]
theorem rev_V {l : List St} (v : ChainV l) : ChainV l.reverse := ⟨by rw [List.length_reverse]; exact v.n, fun x hx => v.each x (List.mem_reverse.1 hx)⟩
theorem cg_rev {l : List St} (v : ChainV l) : cg l.reverse = cg l := by
  rw [cg_prods (rev_V v).each, cg_prods v.each, pN_rev, pD_rev]

/-! ### steps -/
def SP (l : List St) (p : Int) (i : Nat) : Ce := ⟨(cut (p * (cg (l.take i)).2) (cg (l.take i)).1).1, (cut (p * (cg (l.take i)).2) (cg (l.take i)).1).2⟩
theorem steps_loops {l : List St} (h : ChainV l) (p : Int) (hp : 0 ≤ p ∧ p ≤ 1000000) : ∀ i, i ≤ l.length → ∀ xs : List Ce, xs.length = i + 1 → xs[i]? = some (SP l p i) → ∃ r : List Ce, Ev (fun k => spec_StepPulls.l0 k l p xs (i : Int)) (r, true) ∧ Ev (fun k => impl_StepPulls.l0 k xs l (l.length : Int) (i : Int) (cut (p * (cg (l.take i)).2) (cg (l.take i)).1).1 (cut (p * (cg (l.take i)).2) (cg (l.take i)).1).2) (r, true) ∧ r.length = l.length + 1 ∧ r[l.length]? = some (SP l p l.length) := by
  have hn := h.n
  refine downTo l.length ?_ ?_
  · intro xs hx hlast
    exact ⟨xs, Ev.step (fun k => by simp only [spec_StepPulls.l0]; exact rfl) (ifn (by omega) (done rfl)), Ev.step (fun k => by simp only [impl_StepPulls.l0]; exact rfl) (ifn (by omega) (done rfl)), hx, hlast⟩
  · intro i hi ih xs hx hlast
    have hi0 : 0 ≤ (i : Int) := by omega
    have hil : (i : Int) < (l.length : Int) := by omega
    have hxl : xs.length < 8796093022208 := by omega
    have hw : wrap64 ((i : Int) + 1) = ((i + 1 : Nat) : Int) := wrapS hi (by omega)
    have hok := h.each l[i] (List.getElem_mem hi)
    obtain ⟨⟨s1, s2⟩, s3, s4⟩ := sg_range hok
    obtain ⟨⟨a1, a2⟩, a3, a4⟩ := cg_range (take_V h i)
    obtain ⟨⟨b1, b2⟩, b3, b4⟩ := cg_range (take_V h (i + 1))
    have ecg : cg (l.take (i + 1)) = cut ((cg (l.take i)).1 * (sg l[i]).1) ((cg (l.take i)).2 * (sg l[i]).2) := by
      unfold cg
      rw [take_succ hi, List.foldl_append]
      rfl
    have key := step_same hp.1 s1 s3 a1 a3 (p := p)
    rw [← ecg] at key
    obtain ⟨r, e1, e2, e3, e4⟩ := ih (xs ++ [SP l p (i + 1)]) (by simp [hx]) (by rw [← hx, List.getElem?_append_right (Nat.le_refl _), Nat.sub_self]; rfl)
    have m0 : 0 ≤ p * (cg (l.take (i + 1))).2 := Int.mul_nonneg hp.1 (by omega)
    have m1 : p * (cg (l.take (i + 1))).2 ≤ 1000000 * 7962624 := Int.mul_le_mul hp.2 b4 (by omega) (by omega)
    have m2 : 0 ≤ p * (cg (l.take i)).2 := Int.mul_nonneg hp.1 (by omega)
    have m3 : p * (cg (l.take i)).2 ≤ 1000000 * 7962624 := Int.mul_le_mul hp.2 a4 (by omega) (by omega)
    have gp := gd_pos (a := p * (cg (l.take i)).2) a1
    have n0 : 0 ≤ (cut (p * (cg (l.take i)).2) (cg (l.take i)).1).1 := Int.ediv_nonneg m2 (by omega)
    have n1 : (cut (p * (cg (l.take i)).2) (cg (l.take i)).1).1 ≤ 1000000 * 7962624 := Int.le_trans (Int.ediv_le_self _ m2) m3
    have d0 : 0 < (cut (p * (cg (l.take i)).2) (cg (l.take i)).1).2 := Int.ediv_pos_of_pos_of_dvd (by omega) (by omega) (gd_dvd_right _ (by omega))
    have d1 : (cut (p * (cg (l.take i)).2) (cg (l.take i)).1).2 ≤ 254803968 := Int.le_trans (Int.ediv_le_self _ (by omega)) a2
    generalize hX : (cut (p * (cg (l.take i)).2) (cg (l.take i)).1).1 = X at *
    generalize hY : (cut (p * (cg (l.take i)).2) (cg (l.take i)).1).2 = Y at *
    have x0 : 0 ≤ X * (sg l[i]).2 := Int.mul_nonneg n0 (by omega)
    have x1 : X * (sg l[i]).2 ≤ (1000000 * 7962624) * 24 := Int.mul_le_mul n1 s4 (by omega) (by omega)
    obtain ⟨y0, y1⟩ := mul_le (show 1 ≤ Y by omega) d1 s1 s2
    refine ⟨r, Ev.step (fun k => by simp only [spec_StepPulls.l0]; exact rfl) (ifp hil ?_), Ev.step (fun k => by simp only [impl_StepPulls.l0]; exact rfl) (ifp hil (ifp hi0 (ifp hil ?_))), e3, e4⟩
    · rw [hw, Int.toNat_natCast]
      refine ifp (by omega) (ifp (by omega) (Ev.bind (l7Chain_ev (take_V h (i + 1))) ?_))
      rw [w64 (x := p * (cg (l.take (i + 1))).2) (by omega) (by omega)]
      exact Ev.bind (l2Cut_ev m0 (by omega) b1 (by omega)) (ifp hxl e1)
    · rw [rdS hi]
      refine Ev.bind (stageGain_ev hok) ?_
      rw [w64 (x := X * (sg l[i]).2) (by omega) (by omega), w64 (x := Y * (sg l[i]).1) (by omega) (by omega), hw]
      have f := fraction_ev x0 (by omega) y0 (by omega)
      rw [key] at f
      exact Ev.bind f (ifp hxl e2)
theorem steps_both (l : List St) (hn : l.length ≤ 140737488355328) (p : Int) : ∃ r : List Ce, Ev (fun k => spec_StepPulls.f k l p) (r, ChainOK l 5 && Hl p) ∧ Ev (fun k => impl_StepPulls.f k l p) (r, ChainOK l 5 && Hl p) ∧ r.length ≤ 6 ∧ (AskV l p → r.length = l.length + 1 ∧ r[l.length]? = some (SP l p l.length)) := by
  have h1 := l7Ask_ev l p hn
  have h2 := isChain_ev l hn
  unfold spec_StepPulls.f impl_StepPulls.f
  have no : Ev (fun k => impl_StepPulls.j0 k l p true) ([], false) := Ev.step (fun k => by simp only [impl_StepPulls.j0]; exact rfl) (ifp (Eq.refl true) (done rfl))
  by_cases h : (ChainOK l 5 && Hl p) = true
  · have a := ask_of h
    obtain ⟨c1, c2⟩ := Bool.and_eq_true_iff.1 h
    have e0 : cut (p * (cg (l.take 0)).2) (cg (l.take 0)).1 = (p, 1) := by
      show cut (p * 1) 1 = (p, 1)
      rw [Int.mul_one]; exact cut_one a.p0
    obtain ⟨r, e1, e2, e3, e4⟩ := steps_loops a.v p ⟨a.p0, a.p1⟩ 0 (Nat.zero_le _) [⟨p, 1⟩] rfl (by unfold SP; rw [e0]; rfl)
    rw [e0] at e2
    have hv := a.v.n
    rw [c1, c2] at h1 ⊢
    rw [c1] at h2
    refine ⟨r, Ev.bind h1 (ifp (Eq.refl true) e1), Ev.bind h2 (ifp (Eq.refl true) (somb (isHaul_eq p) ?_)), by omega, fun _ => ⟨e3, e4⟩⟩
    rw [c2]
    exact Ev.step (fun k => by simp only [impl_StepPulls.j0]; exact rfl) (ifn (by decide) e2)
  · have hf : (ChainOK l 5 && Hl p) = false := by simpa using h
    rw [hf] at h1 ⊢
    refine ⟨[], Ev.bind h1 (ifn Bool.false_ne_true (done rfl)), Ev.bind h2 ?_, by simp, fun a => absurd a.ok h⟩
    by_cases c : ChainOK l 5 = true
    · refine ifp c (somb (isHaul_eq p) ?_)
      cases hp : Hl p with
      | true => rw [c, hp] at h; exact absurd rfl h
      | false => exact no
    · exact ifn c no
end Go.Proofs.Ytbjilpmnhghfhaa.PureChainVals
