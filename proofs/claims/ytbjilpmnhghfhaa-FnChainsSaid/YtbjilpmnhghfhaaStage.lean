/- What the checks of stages and chains come to, their gains, and the copies that the law makes, in plain lists. No conditions beyond those of the lemmas' own hypotheses. -/
import Derived.Test.YtbjilpmnhghfhaaPlain
import Derived.Test.YtbjilpmnhghfhaaXChx10
import Derived.Test.YtbjilpmnhghfhaaXChx7
import Derived.Test.YtbjilpmnhghfhaaXChx6
import Derived.Test.YtbjilpmnhghfhaaXChx9
import Derived.Test.YtbjilpmnhghfhaaXChx11
import Derived.Test.YtbjilpmnhghfhaaXChx8
namespace Go.Proofs.Ytbjilpmnhghfhaa.PureStage
open Go.RowKit Go.Proofs.Ytbjilpmnhghfhaa.XCh Go.Proofs.Ytbjilpmnhghfhaa.Plain Go.Proofs.YtbjilpmnhghfhaaW.PrintWords Go.Proofs.YtbjilpmnhghfhaaW.PrintLast Go.Proofs.YtbjilpmnhghfhaaW.PrintMore
set_option linter.unusedVariables false

abbrev St := S37
theorem rdS {l : List St} {i : Nat} (h : i < l.length) : rd_T37 l (i : Int) = l[i] := by
  unfold rd_T37; rw [Int.toNat_natCast]; exact getD_lt h _

/-! ### numbers within bounds -/
theorem l1In_eq (a b c : Int) : spec_l1In.f a b c = some (decide (b ≤ a ∧ a ≤ c)) := by
  unfold spec_l1In.f
  by_cases h : b ≤ a
  · rw [if_pos h]; simp [h]
  · rw [if_neg h]; simp [h]
theorem within_eq (a b c : Int) : impl_within.f a b c = some (decide (b ≤ a ∧ a ≤ c)) := by
  unfold impl_within.f
  by_cases h : b ≤ a
  · rw [if_pos h]; simp [h]
  · rw [if_neg h]; simp [h]
def Rt (p : Int) : Bool := decide (1 ≤ p ∧ p ≤ 24)
theorem isRatio_eq (p : Int) : impl_isRatio.f p = some (Rt p) := by unfold impl_isRatio.f Rt; rw [within_eq]; rfl
theorem l7Two_eq (p q : Int) : spec_l7Two.f p q = some (Rt p && Rt q) := by
  unfold spec_l7Two.f Rt; rw [l1In_eq, l1In_eq]
  by_cases h : 1 ≤ p ∧ p ≤ 24 <;> simp [h]
def StOK (a b c : Int) : Bool := if a = 1 ∨ a = 3 then Rt b && Rt c else if a = 2 then Rt b && (c == 0) else if a = 4 then (Rt b && Rt c) && decide (b ≥ c) else if a = 5 then (Rt b && Rt c) && decide (b > c) else false
theorem l7Stage_ev (a b c : Int) : Ev (fun k => spec_l7Stage.f k a b c) (StOK a b c) := by
  have key : ∀ t : Bool, (t = decide (a = 1 ∨ a = 3)) → Ev (fun k => spec_l7Stage.j0 k a t a b c) (StOK a b c) := by
    intro t ht
    refine Ev.step (fun k => by simp only [spec_l7Stage.j0]; exact rfl) ?_
    rw [l7Two_eq, l1In_eq]
    subst ht
    unfold StOK
    by_cases h1 : a = 1 ∨ a = 3
    · refine ifp (by simpa using h1) ?_
      rw [if_pos h1]
      exact done rfl
    · refine ifn (by simpa using h1) ?_
      rw [if_neg h1]
      by_cases h2 : a = 2
      · refine ifp h2 ?_
        rw [if_pos h2]
        show Ev (fun k => if Rt b = true then _ else _) _
        cases Rt b with
        | true => exact ifp rfl (done rfl)
        | false => exact ifn (by decide) (done rfl)
      · refine ifn h2 ?_
        rw [if_neg h2]
        by_cases h4 : a = 4
        · refine ifp h4 ?_
          rw [if_pos h4]
          refine somb rfl ?_
          cases (Rt b && Rt c) with
          | true => exact ifp rfl (done (by simp))
          | false => exact ifn (by decide) (done rfl)
        · refine ifn h4 ?_
          rw [if_neg h4]
          by_cases h5 : a = 5
          · refine ifp h5 ?_
            rw [if_pos h5]
            refine somb rfl ?_
            cases (Rt b && Rt c) with
            | true => exact ifp rfl (done (by simp))
            | false => exact ifn (by decide) (done rfl)
          · refine ifn h5 ?_
            rw [if_neg h5]
            exact done rfl
  unfold spec_l7Stage.f
  by_cases h1 : a = 1
  · refine ifp h1 (key _ (by simp [h1]))
  · refine ifn h1 (key _ (by by_cases h3 : a = 3 <;> simp [h1, h3]))
theorem IsStage_ev (a b c : Int) : Ev (fun k => impl_IsStage.f k a b c) (StOK a b c) := by
  have key : ∀ t : Bool, (t = decide (a = 1 ∨ a = 3)) → Ev (fun k => impl_IsStage.j0 k a t a b c) (StOK a b c) := by
    intro t ht
    refine Ev.step (fun k => by simp only [impl_IsStage.j0]; exact rfl) ?_
    rw [isRatio_eq, isRatio_eq]
    subst ht
    unfold StOK
    by_cases h1 : a = 1 ∨ a = 3
    · refine ifp (by simpa using h1) ?_
      rw [if_pos h1]
      refine somb rfl ?_
      cases Rt b with
      | true => exact ifp rfl (done (by simp))
      | false => exact ifn (by decide) (done rfl)
    · refine ifn (by simpa using h1) ?_
      rw [if_neg h1]
      by_cases h2 : a = 2
      · refine ifp h2 ?_
        rw [if_pos h2]
        refine somb rfl ?_
        cases Rt b with
        | true => exact ifp rfl (done (by simp))
        | false => exact ifn (by decide) (done rfl)
      · refine ifn h2 ?_
        rw [if_neg h2]
        by_cases h4 : a = 4
        · refine ifp h4 ?_
          rw [if_pos h4]
          refine somb rfl ?_
          cases Rt b with
          | false => exact ifn (by decide) (done rfl)
          | true =>
            refine ifp rfl (somb rfl ?_)
            cases Rt c with
            | true => exact ifp rfl (done (by simp))
            | false => exact ifn (by decide) (done rfl)
        · refine ifn h4 ?_
          rw [if_neg h4]
          by_cases h5 : a = 5
          · refine ifp h5 ?_
            rw [if_pos h5]
            refine somb rfl ?_
            cases Rt b with
            | false => exact ifn (by decide) (done rfl)
            | true =>
              refine ifp rfl (somb rfl ?_)
              cases Rt c with
              | true => exact ifp rfl (done (by simp))
              | false => exact ifn (by decide) (done rfl)
          · refine ifn h5 ?_
            rw [if_neg h5]
            exact done rfl
  unfold impl_IsStage.f
  by_cases h1 : a = 1
  · refine ifp h1 (key _ (by simp [h1]))
  · refine ifn h1 (key _ (by by_cases h3 : a = 3 <;> simp [h1, h3]))
def OK (x : St) : Bool := StOK x.f0 x.f1 x.f2

theorem l7Stages_l0 (l : List St) (c : Int) (hn : l.length ≤ 140737488355328) : ∀ i, i ≤ l.length → Ev (fun k => spec_l7Stages.l0 k l c (i : Int)) ((l.drop i).all OK && decide ((l.length : Int) ≤ c)) := by
  refine downTo l.length ?_ ?_
  · refine Ev.step (fun k => by simp only [spec_l7Stages.l0]; exact rfl) (ifn (by omega) (done ?_))
    simp
  · intro i hi ih
    refine Ev.step (fun k => by simp only [spec_l7Stages.l0]; exact rfl) (ifp (by omega) (ifp (by omega) ?_))
    rw [rdS hi]
    refine Ev.bind (l7Stage_ev _ _ _) ?_
    rw [drop_cons hi, List.all_cons]
    show Ev (fun k => if OK l[i] = true then _ else _) _
    cases OK l[i] with
    | false => exact ifn (by decide) (done rfl)
    | true => refine ifp rfl ?_; rw [wrapS hi hn, Bool.true_and]; exact ih
def ChainOK (l : List St) (c : Int) : Bool := l.all OK && decide ((l.length : Int) ≤ c)
theorem l7Stages_ev (l : List St) (c : Int) (hn : l.length ≤ 140737488355328) : Ev (fun k => spec_l7Stages.f k l c) (ChainOK l c) := l7Stages_l0 l c hn 0 (Nat.zero_le _)
theorem isChain_l0 (l : List St) (hn : l.length ≤ 140737488355328) : ∀ i, i ≤ l.length → Ev (fun k => impl_isChain.l0 k l l (l.length : Int) (i : Int)) ((l.drop i).all OK && decide ((l.length : Int) ≤ 5)) := by
  refine downTo l.length ?_ ?_
  · refine Ev.step (fun k => by simp only [impl_isChain.l0]; exact rfl) (ifn (by omega) (done ?_))
    simp
  · intro i hi ih
    refine Ev.step (fun k => by simp only [impl_isChain.l0]; exact rfl) (ifp (by omega) (ifp (by omega) (ifp (by omega) ?_)))
    rw [rdS hi]
    refine Ev.bind (IsStage_ev _ _ _) ?_
    rw [drop_cons hi, List.all_cons]
    show Ev (fun k => if OK l[i] = true then _ else _) _
    cases OK l[i] with
    | false => exact ifn (by decide) (done rfl)
    | true => refine ifp rfl ?_; rw [wrapS hi hn, Bool.true_and]; exact ih
theorem isChain_ev (l : List St) (hn : l.length ≤ 140737488355328) : Ev (fun k => impl_isChain.f k l) (ChainOK l 5) := isChain_l0 l hn 0 (Nat.zero_le _)
def Hl (p : Int) : Bool := decide (0 ≤ p ∧ p ≤ 1000000)
theorem isHaul_eq (p : Int) : impl_isHaul.f p = some (Hl p) := by unfold impl_isHaul.f Hl; rw [within_eq]; rfl
theorem l7Ask_ev (l : List St) (p : Int) (hn : l.length ≤ 140737488355328) : Ev (fun k => spec_l7Ask.f k l p) (ChainOK l 5 && Hl p) := by
  unfold spec_l7Ask.f
  refine Ev.bind (l7Stages_ev l 5 hn) ?_
  rw [l1In_eq]
  cases ChainOK l 5 with
  | false => exact ifn (by decide) (done rfl)
  | true => exact ifp rfl (done rfl)
structure ChainV (l : List St) : Prop where
  n : l.length ≤ 5
  each : ∀ x ∈ l, OK x = true
theorem chainV {l : List St} (h : ChainOK l 5 = true) : ChainV l := by
  unfold ChainOK at h
  simp only [Bool.and_eq_true, decide_eq_true_eq, List.all_eq_true] at h
  exact ⟨by omega, h.1⟩

/-! ### fractions -/
theorem gcd_l0 : ∀ k a b, spec_l2Gcd.l0 k a b = impl_divisor.l0 k a b := by
  intro k
  induction k with
  | zero => intro a b; rfl
  | succ k ih => intro a b; simp only [spec_l2Gcd.l0, impl_divisor.l0]; rw [ih]
theorem divisor_nat (b : Nat) : ∀ a : Nat, Ev (fun k => impl_divisor.f k (a : Int) (b : Int)) ((Nat.gcd a b : Nat) : Int) := by
  induction b using Nat.strongRecOn with
  | ind b ih =>
    intro a
    refine Ev.step (fun k => by simp only [impl_divisor.f, impl_divisor.l0]; exact rfl) ?_
    by_cases hb : b = 0
    · subst hb
      exact ifn (by decide) (done (by simp))
    · refine ifp (by omega) (ifn (by omega) ?_)
      rw [show Int.tmod (a : Int) (b : Int) = ((a % b : Nat) : Int) from by simp [Int.tmod]]
      have := ih (a % b) (Nat.mod_lt _ (by omega)) b
      rw [Nat.gcd_comm, ← Nat.gcd_rec] at this
      rw [Nat.gcd_comm]
      exact this
def gd (a b : Int) : Int := ((Nat.gcd a.toNat b.toNat : Nat) : Int)
def cut (a b : Int) : Int × Int := (a / gd a b, b / gd a b)
theorem gd_pos {a b : Int} (hb : 1 ≤ b) : 1 ≤ gd a b := by
  have : 0 < Nat.gcd a.toNat b.toNat := Nat.gcd_pos_of_pos_right _ (by omega)
  unfold gd; omega
theorem gd_dvd_left {a : Int} (b : Int) (ha : 0 ≤ a) : gd a b ∣ a := by
  have h : ((a.toNat : Nat) : Int) = a := Int.toNat_of_nonneg ha
  have := Int.natCast_dvd_natCast.2 (Nat.gcd_dvd_left a.toNat b.toNat)
  rwa [h] at this
theorem gd_dvd_right (a : Int) {b : Int} (hb : 0 ≤ b) : gd a b ∣ b := by
  have h : ((b.toNat : Nat) : Int) = b := Int.toNat_of_nonneg hb
  have := Int.natCast_dvd_natCast.2 (Nat.gcd_dvd_right a.toNat b.toNat)
  rwa [h] at this
theorem divisor_ev {a b : Int} (ha : 0 ≤ a) (hb : 0 ≤ b) : Ev (fun k => impl_divisor.f k a b) (gd a b) := by
  have := divisor_nat b.toNat a.toNat
  rw [Int.toNat_of_nonneg ha, Int.toNat_of_nonneg hb] at this
  exact this
theorem fraction_ev {a b : Int} (ha : 0 ≤ a) (ha1 : a ≤ 4611686018427387904) (hb : 1 ≤ b) (hb1 : b ≤ 4611686018427387904) : Ev (fun k => impl_fraction.f k a b) (cut a b) := by
  unfold impl_fraction.f
  have hm : mx a (wrap64 (-a)) = a := by rw [w64 (by omega) (by omega)]; unfold mx; split <;> omega
  rw [hm]
  have hg := gd_pos (a := a) hb
  refine Ev.bind (divisor_ev ha (by omega)) (ifn (by omega) (done ?_))
  have h1 : a / gd a b ≤ a := Int.ediv_le_self _ ha
  have h2 : b / gd a b ≤ b := Int.ediv_le_self _ (by omega)
  have h3 : 0 ≤ a / gd a b := Int.ediv_nonneg ha (by omega)
  have h4 : 0 ≤ b / gd a b := Int.ediv_nonneg (by omega) (by omega)
  rw [Int.tdiv_eq_ediv_of_nonneg ha, Int.tdiv_eq_ediv_of_nonneg (by omega : 0 ≤ b), w64 (by omega) (by omega), w64 (by omega) (by omega)]
  rfl
theorem l2Cut_ev {a b : Int} (ha : 0 ≤ a) (ha1 : a ≤ 4611686018427387904) (hb : 1 ≤ b) (hb1 : b ≤ 4611686018427387904) : Ev (fun k => spec_l2Cut.f k a b) (cut a b) := by
  have := fraction_ev ha ha1 hb hb1
  refine Ev.congr ?_ this
  intro k
  unfold spec_l2Cut.f impl_fraction.f spec_l1Most.f spec_l2Gcd.f impl_divisor.f
  simp only [gcd_l0]
  have hm : mx a (wrap64 (-a)) = a := by rw [w64 (by omega) (by omega)]; unfold mx; split <;> omega
  rw [hm, w64 (by omega) (by omega)]
  by_cases h : a > -a
  · rw [if_pos h]; rfl
  · rw [if_neg h, show -a = a from by omega]; rfl
theorem cut_range {a b A B : Int} (ha : 1 ≤ a) (ha1 : a ≤ A) (hb : 1 ≤ b) (hb1 : b ≤ B) : (1 ≤ (cut a b).1 ∧ (cut a b).1 ≤ A) ∧ 1 ≤ (cut a b).2 ∧ (cut a b).2 ≤ B := by
  have hg := gd_pos (a := a) hb
  have h1 : a / gd a b ≤ a := Int.ediv_le_self _ (by omega)
  have h2 : b / gd a b ≤ b := Int.ediv_le_self _ (by omega)
  have h3 : 0 < a / gd a b := Int.ediv_pos_of_pos_of_dvd (by omega) (by omega) (gd_dvd_left b (by omega))
  have h4 : 0 < b / gd a b := Int.ediv_pos_of_pos_of_dvd (by omega) (by omega) (gd_dvd_right a (by omega))
  show (1 ≤ a / gd a b ∧ a / gd a b ≤ A) ∧ 1 ≤ b / gd a b ∧ b / gd a b ≤ B
  omega
/-- A quotient of whole numbers is the same after the common divisor is taken out. -/
theorem cut_quot {a b : Int} (ha : 0 ≤ a) (hb : 1 ≤ b) : (cut a b).1 / (cut a b).2 = a / b := by
  have hg := gd_pos (a := a) hb
  obtain ⟨u, hu⟩ := gd_dvd_left b ha
  obtain ⟨v, hv⟩ := gd_dvd_right a (by omega : 0 ≤ b)
  show a / gd a b / (b / gd a b) = a / b
  have e1 : a / gd a b = u := by rw [show a / gd a b = gd a b * u / gd a b from by rw [← hu]]; exact Int.mul_ediv_cancel_left _ (by omega)
  have e2 : b / gd a b = v := by rw [show b / gd a b = gd a b * v / gd a b from by rw [← hv]]; exact Int.mul_ediv_cancel_left _ (by omega)
  rw [e1, e2]
  rw [show a / b = (gd a b * u) / (gd a b * v) from by rw [← hu, ← hv]]
  exact (Int.mul_ediv_mul_of_pos _ _ (by omega)).symm

/-! ### gains -/
def sg (x : St) : Int × Int := if x.f0 = 2 then (x.f1, 1) else if x.f0 = 5 then cut (2 * x.f1) (x.f1 - x.f2) else cut x.f1 x.f2
theorem ok_cases {x : St} (h : OK x = true) : 1 ≤ x.f1 ∧ x.f1 ≤ 24 ∧ (x.f0 = 2 ∨ (1 ≤ x.f2 ∧ x.f2 ≤ 24)) ∧ (x.f0 = 5 → x.f2 < x.f1) := by
  unfold OK StOK Rt at h
  split at h
  · simp at h; omega
  · split at h
    · simp at h; omega
    · split at h
      · simp at h; omega
      · split at h
        · simp at h; omega
        · cases h
theorem sg_range {x : St} (h : OK x = true) : (1 ≤ (sg x).1 ∧ (sg x).1 ≤ 48) ∧ 1 ≤ (sg x).2 ∧ (sg x).2 ≤ 24 := by
  obtain ⟨h1, h2, h3, h4⟩ := ok_cases h
  unfold sg
  split
  · simp; omega
  · split
    · exact cut_range (by omega) (by omega) (by omega) (by omega)
    · exact cut_range (by omega) (by omega) (by omega) (by omega)
theorem l7Gain_ev {x : St} (h : OK x = true) : Ev (fun k => spec_l7Gain.f k x.f0 x.f1 x.f2) (sg x) := by
  obtain ⟨h1, h2, h3, h4⟩ := ok_cases h
  unfold spec_l7Gain.f sg
  by_cases e2 : x.f0 = 2
  · rw [if_pos e2]; exact ifp e2 (done rfl)
  · rw [if_neg e2]
    refine ifn e2 ?_
    by_cases e5 : x.f0 = 5
    · rw [if_pos e5]
      refine ifp e5 ?_
      rw [w64 (by omega) (by omega), w64 (by omega) (by omega)]
      exact Ev.bind (l2Cut_ev (by omega) (by omega) (by omega) (by omega)) (done rfl)
    · rw [if_neg e5]
      refine ifn e5 ?_
      exact Ev.bind (l2Cut_ev (by omega) (by omega) (by omega) (by omega)) (done rfl)
theorem stageGain_ev {x : St} (h : OK x = true) : Ev (fun k => impl_stageGain.f k x.f0 x.f1 x.f2) (sg x) := by
  obtain ⟨h1, h2, h3, h4⟩ := ok_cases h
  unfold impl_stageGain.f sg
  by_cases e2 : x.f0 = 2
  · rw [if_pos e2]; exact ifp e2 (done rfl)
  · rw [if_neg e2]
    refine ifn e2 ?_
    by_cases e5 : x.f0 = 5
    · rw [if_pos e5]
      refine ifp e5 ?_
      rw [w64 (by omega) (by omega), w64 (by omega) (by omega)]
      exact Ev.bind (fraction_ev (by omega) (by omega) (by omega) (by omega)) (done rfl)
    · rw [if_neg e5]
      refine ifn e5 ?_
      exact Ev.bind (fraction_ev (by omega) (by omega) (by omega) (by omega)) (done rfl)
def st1 (g : Int × Int) (x : St) : Int × Int := cut (g.1 * (sg x).1) (g.2 * (sg x).2)
def cg (l : List St) : Int × Int := l.foldl st1 (1, 1)
theorem mul_le {a b A B : Int} (ha : 1 ≤ a) (ha1 : a ≤ A) (hb : 1 ≤ b) (hb1 : b ≤ B) : 1 ≤ a * b ∧ a * b ≤ A * B := by
  constructor
  · have := Int.mul_le_mul ha hb (by omega) (by omega); simpa using this
  · exact Int.mul_le_mul ha1 hb1 (by omega) (by omega)
def Rng (n : Nat) (g : Int × Int) : Prop := (1 ≤ g.1 ∧ g.1 ≤ 48 ^ n) ∧ 1 ≤ g.2 ∧ g.2 ≤ 24 ^ n
theorem prod_range {n : Nat} {g : Int × Int} (hg : Rng n g) {x : St} (h : OK x = true) : (1 ≤ g.1 * (sg x).1 ∧ g.1 * (sg x).1 ≤ 48 ^ (n + 1)) ∧ 1 ≤ g.2 * (sg x).2 ∧ g.2 * (sg x).2 ≤ 24 ^ (n + 1) := by
  obtain ⟨⟨a1, a2⟩, a3, a4⟩ := hg
  obtain ⟨⟨b1, b2⟩, b3, b4⟩ := sg_range h
  rw [Int.pow_succ, Int.pow_succ]
  exact ⟨mul_le a1 a2 b1 b2, mul_le a3 a4 b3 b4⟩
theorem st1_range {n : Nat} {g : Int × Int} (hg : Rng n g) {x : St} (h : OK x = true) : Rng (n + 1) (st1 g x) := by
  obtain ⟨⟨a1, a2⟩, a3, a4⟩ := prod_range hg h
  exact cut_range a1 a2 a3 a4
theorem pow48 {n : Nat} (h : n ≤ 5) : (48 : Int) ^ n ≤ 254803968 := by
  have : (48 : Nat) ^ n ≤ 48 ^ 5 := Nat.pow_le_pow_right (by decide) h
  have h2 : ((48 ^ n : Nat) : Int) ≤ ((48 ^ 5 : Nat) : Int) := Int.ofNat_le.2 this
  simpa using h2
theorem pow24 {n : Nat} (h : n ≤ 5) : (24 : Int) ^ n ≤ 7962624 := by
  have : (24 : Nat) ^ n ≤ 24 ^ 5 := Nat.pow_le_pow_right (by decide) h
  have h2 : ((24 ^ n : Nat) : Int) ≤ ((24 ^ 5 : Nat) : Int) := Int.ofNat_le.2 this
  simpa using h2
theorem Rng.small {n : Nat} {g : Int × Int} (hg : Rng n g) (h : n ≤ 5) : (1 ≤ g.1 ∧ g.1 ≤ 254803968) ∧ 1 ≤ g.2 ∧ g.2 ≤ 7962624 := by
  obtain ⟨⟨a1, a2⟩, a3, a4⟩ := hg
  have := pow48 h
  have := pow24 h
  omega
theorem fold_range (l : List St) : ∀ (n : Nat) (g : Int × Int), Rng n g → (∀ x ∈ l, OK x = true) → Rng (n + l.length) (l.foldl st1 g) := by
  induction l with
  | nil => intro n g hg _; exact hg
  | cons x l ih =>
    intro n g hg h
    have := ih (n + 1) (st1 g x) (st1_range hg (h x (by simp))) (fun y hy => h y (by simp [hy]))
    rw [List.length_cons, show n + (l.length + 1) = n + 1 + l.length from by omega]
    exact this
theorem rng0 : Rng 0 (1, 1) := ⟨⟨by decide, by decide⟩, by decide, by decide⟩
theorem cg_range {l : List St} (h : ChainV l) : (1 ≤ (cg l).1 ∧ (cg l).1 ≤ 254803968) ∧ 1 ≤ (cg l).2 ∧ (cg l).2 ≤ 7962624 := by
  have := fold_range l 0 (1, 1) rng0 h.each
  exact this.small (by have := h.n; omega)
theorem l7Chain_l0 {l : List St} (h : ChainV l) : ∀ i, i ≤ l.length → ∀ g : Int × Int, Rng i g → Ev (fun k => spec_l7Chain.l0 k l (i : Int) g.1 g.2) ((l.drop i).foldl st1 g) := by
  have hn := h.n
  refine downTo l.length ?_ ?_
  · intro g _
    refine Ev.step (fun k => by simp only [spec_l7Chain.l0]; exact rfl) (ifn (by omega) (done ?_))
    simp
  · intro i hi ih g hg
    have hx := h.each l[i] (List.getElem_mem hi)
    refine Ev.step (fun k => by simp only [spec_l7Chain.l0]; exact rfl) (ifp (by omega) (ifp (by omega) ?_))
    rw [rdS hi]
    obtain ⟨⟨a1, a2⟩, a3, a4⟩ := prod_range hg hx
    have p1 := pow48 (n := i + 1) (by omega)
    have p2 := pow24 (n := i + 1) (by omega)
    refine Ev.bind (l7Gain_ev hx) ?_
    rw [w64 (by omega) (by omega), w64 (by omega) (by omega)]
    refine Ev.bind (l2Cut_ev (by omega) (by omega) (by omega) (by omega)) ?_
    rw [wrapS hi (by omega), drop_cons hi, List.foldl_cons]
    exact ih (st1 g l[i]) (st1_range hg hx)
theorem l7Chain_ev {l : List St} (h : ChainV l) : Ev (fun k => spec_l7Chain.f k l) (cg l) := l7Chain_l0 h 0 (Nat.zero_le _) (1, 1) rng0
theorem chainGain_l0 {l : List St} (h : ChainV l) : ∀ i, i ≤ l.length → ∀ g : Int × Int, Rng i g → Ev (fun k => impl_chainGain.l0 k l (l.length : Int) (i : Int) g.1 g.2) ((l.drop i).foldl st1 g) := by
  have hn := h.n
  refine downTo l.length ?_ ?_
  · intro g _
    refine Ev.step (fun k => by simp only [impl_chainGain.l0]; exact rfl) (ifn (by omega) (done ?_))
    simp
  · intro i hi ih g hg
    have hx := h.each l[i] (List.getElem_mem hi)
    refine Ev.step (fun k => by simp only [impl_chainGain.l0]; exact rfl) (ifp (by omega) (ifp (by omega) (ifp (by omega) ?_)))
    rw [rdS hi]
    obtain ⟨⟨a1, a2⟩, a3, a4⟩ := prod_range hg hx
    have p1 := pow48 (n := i + 1) (by omega)
    have p2 := pow24 (n := i + 1) (by omega)
    refine Ev.bind (stageGain_ev hx) ?_
    rw [w64 (by omega) (by omega), w64 (by omega) (by omega)]
    refine Ev.bind (fraction_ev (by omega) (by omega) (by omega) (by omega)) ?_
    rw [wrapS hi (by omega), drop_cons hi, List.foldl_cons]
    exact ih (st1 g l[i]) (st1_range hg hx)
theorem chainGain_ev {l : List St} (h : ChainV l) : Ev (fun k => impl_chainGain.f k l) (cg l) := chainGain_l0 h 0 (Nat.zero_le _) (1, 1) rng0

/-! ### copies, and what is alike -/
end Go.Proofs.Ytbjilpmnhghfhaa.PureStage
