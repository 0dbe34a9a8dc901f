/- Fractions in their lowest terms. Single stages: their gains and the turned ones, in the program and in the reference alike; lists that a law compares. Choices of places in order, and the lists of them that the reference makes. What ExactGain comes to, in the reference and in the program: the first of the fewest stages. What ReachGain comes to, in the reference and in the program: the first of the fewest stages. What the fewest stages for a gain are: none is as good with fewer. No conditions beyond those of the lemmas' own hypotheses. -/
import Derived.Test.YtbjilpmnhghfhaaStage
import Derived.Test.YtbjilpmnhghfhaaPlain
import Derived.Test.YtbjilpmnhghfhaaXStx5
import Derived.Test.YtbjilpmnhghfhaaXStx6
import Derived.Test.YtbjilpmnhghfhaaXStx7
import Derived.Test.YtbjilpmnhghfhaaXStx8
import Derived.Test.YtbjilpmnhghfhaaXStx18
import Derived.Test.YtbjilpmnhghfhaaXStx13
import Derived.Test.YtbjilpmnhghfhaaXStx12
import Derived.Test.YtbjilpmnhghfhaaXStx15
import Derived.Test.YtbjilpmnhghfhaaXStx14
import Derived.Test.YtbjilpmnhghfhaaXStx17
import Derived.Test.YtbjilpmnhghfhaaXStx11
namespace Go.Proofs.Ytbjilpmnhghfhaa.PureLowest
open Go.RowKit Go.Proofs.Ytbjilpmnhghfhaa.XSt Go.Proofs.Ytbjilpmnhghfhaa.Plain Go.Proofs.Ytbjilpmnhghfhaa.PureStage Go.Proofs.YtbjilpmnhghfhaaW.PrintWords Go.Proofs.YtbjilpmnhghfhaaW.PrintLast Go.Proofs.YtbjilpmnhghfhaaW.PrintMore
set_option linter.unusedVariables false
set_option linter.unusedSimpArgs false
theorem nat_lowest {a b c d : Nat} (hb : 0 < b) (hd : 0 < d) (h : a * d = c * b) : a / Nat.gcd a b = c / Nat.gcd c d ∧ b / Nat.gcd a b = d / Nat.gcd c d := by
  have g0 : 0 < Nat.gcd a b := Nat.gcd_pos_of_pos_right _ hb
  have g1 : 0 < Nat.gcd c d := Nat.gcd_pos_of_pos_right _ hd
  obtain ⟨p, hp⟩ := Nat.gcd_dvd_left a b
  obtain ⟨q, hq⟩ := Nat.gcd_dvd_right a b
  obtain ⟨u, hu⟩ := Nat.gcd_dvd_left c d
  obtain ⟨v, hv⟩ := Nat.gcd_dvd_right c d
  have cp : Nat.Coprime (a / Nat.gcd a b) (b / Nat.gcd a b) := Nat.coprime_div_gcd_div_gcd g0
  have cq : Nat.Coprime (c / Nat.gcd c d) (d / Nat.gcd c d) := Nat.coprime_div_gcd_div_gcd g1
  have ep : a / Nat.gcd a b = p := Nat.div_eq_of_eq_mul_right g0 hp
  have eq : b / Nat.gcd a b = q := Nat.div_eq_of_eq_mul_right g0 hq
  have eu : c / Nat.gcd c d = u := Nat.div_eq_of_eq_mul_right g1 hu
  have ev : d / Nat.gcd c d = v := Nat.div_eq_of_eq_mul_right g1 hv
  rw [ep, eq] at cp
  rw [eu, ev] at cq
  rw [ep, eq, eu, ev]
  generalize Nat.gcd a b = g at *
  generalize Nat.gcd c d = k at *
  subst hp hq hu hv
  have h2 : p * v = u * q := by
    have e1 : g * p * (k * v) = (g * k) * (p * v) := by simp only [Nat.mul_assoc, Nat.mul_left_comm, Nat.mul_comm]
    have e2 : k * u * (g * q) = (g * k) * (u * q) := by simp only [Nat.mul_assoc, Nat.mul_left_comm, Nat.mul_comm]
    rw [e1, e2] at h
    exact Nat.eq_of_mul_eq_mul_left (Nat.mul_pos g0 g1) h
  constructor
  · apply Nat.dvd_antisymm
    · exact cp.dvd_of_dvd_mul_right (by rw [← h2]; exact Nat.dvd_mul_right _ _)
    · exact cq.dvd_of_dvd_mul_right (by rw [h2]; exact Nat.dvd_mul_right _ _)
  · apply Nat.dvd_antisymm
    · exact cp.symm.dvd_of_dvd_mul_left (by rw [h2]; exact Nat.dvd_mul_left _ _)
    · exact cq.symm.dvd_of_dvd_mul_left (by rw [← h2]; exact Nat.dvd_mul_left _ _)
theorem cut_same {a b c d : Int} (ha : 0 ≤ a) (hb : 1 ≤ b) (hc : 0 ≤ c) (hd : 1 ≤ d) (h : a * d = c * b) : cut a b = cut c d := by
  obtain ⟨a, rfl⟩ := Int.eq_ofNat_of_zero_le ha
  obtain ⟨b, rfl⟩ := Int.eq_ofNat_of_zero_le (show 0 ≤ b by omega)
  obtain ⟨c, rfl⟩ := Int.eq_ofNat_of_zero_le hc
  obtain ⟨d, rfl⟩ := Int.eq_ofNat_of_zero_le (show 0 ≤ d by omega)
  have h' : a * d = c * b := by exact_mod_cast h
  obtain ⟨e1, e2⟩ := nat_lowest (by omega) (by omega) h'
  unfold cut PureStage.gd
  simp only [Int.toNat_natCast]
  rw [← Int.natCast_ediv, ← Int.natCast_ediv, ← Int.natCast_ediv, ← Int.natCast_ediv, e1, e2]
theorem cut_mul {a b : Int} (ha : 0 ≤ a) (hb : 1 ≤ b) : ∃ g : Int, 1 ≤ g ∧ a = g * (cut a b).1 ∧ b = g * (cut a b).2 := by
  refine ⟨gd a b, gd_pos hb, ?_, ?_⟩
  · exact (Int.mul_ediv_cancel' (gd_dvd_left b ha)).symm
  · exact (Int.mul_ediv_cancel' (gd_dvd_right a (by omega))).symm
theorem cut_one {a : Int} (ha : 0 ≤ a) : cut a 1 = (a, 1) := by
  unfold cut PureStage.gd
  simp
/-- The pull behind one more stage. -/
theorem step_same {p n d N D : Int} (hp : 0 ≤ p) (hn : 1 ≤ n) (hd : 1 ≤ d) (hN : 1 ≤ N) (hD : 1 ≤ D) : cut ((cut (p * D) N).1 * d) ((cut (p * D) N).2 * n) = cut (p * (cut (N * n) (D * d)).2) (cut (N * n) (D * d)).1 := by
  have pD : 0 ≤ p * D := Int.mul_nonneg hp (by omega)
  have Nn : 1 ≤ N * n := (mul_le hN (Int.le_refl _) hn (Int.le_refl _)).1
  have Dd : 1 ≤ D * d := (mul_le hD (Int.le_refl _) hd (Int.le_refl _)).1
  obtain ⟨h, h1, h2, h3⟩ := cut_mul pD hN
  obtain ⟨g, g1, g2, g3⟩ := cut_mul (show 0 ≤ N * n by omega) Dd
  have q1 := (cut_range Nn (Int.le_refl _) Dd (Int.le_refl _))
  generalize hA : (cut (p * D) N).1 = A at *
  generalize hB : (cut (p * D) N).2 = B at *
  generalize hU : (cut (N * n) (D * d)).1 = U at *
  generalize hV : (cut (N * n) (D * d)).2 = V at *
  have hA0 : 0 ≤ A := by
    rw [← hA]; exact Int.ediv_nonneg pD (by have := gd_pos (a := p * D) hN; omega)
  have hB1 : 1 ≤ B := by
    have : 0 < h * B := by omega
    rcases Int.lt_or_le 0 B with hh | hh
    · omega
    · have := Int.mul_le_mul_of_nonneg_left hh (show 0 ≤ h by omega)
      omega
  refine cut_same (Int.mul_nonneg hA0 (by omega)) ((mul_le hB1 (Int.le_refl _) hn (Int.le_refl _)).1) (Int.mul_nonneg hp (by omega)) q1.1.1 ?_
  have e : (g * h) * (A * d * U) = (g * h) * (p * V * (B * n)) := by
    have l1 : (g * h) * (A * d * U) = (h * A) * d * (g * U) := by simp only [Int.mul_assoc, Int.mul_left_comm, Int.mul_comm]
    have l2 : (g * h) * (p * V * (B * n)) = p * (g * V) * ((h * B) * n) := by simp only [Int.mul_assoc, Int.mul_left_comm, Int.mul_comm]
    rw [l1, l2, ← h2, ← g2, ← g3, ← h3]
    simp only [Int.mul_assoc, Int.mul_left_comm, Int.mul_comm]
  exact Int.eq_of_mul_eq_mul_left (by have := Int.mul_pos (show 0 < g by omega) (show 0 < h by omega); omega) e
theorem cut_comm (a b : Int) : cut b a = ((cut a b).2, (cut a b).1) := by
  unfold cut PureStage.gd
  rw [Nat.gcd_comm b.toNat a.toNat]
def Low (g : Int × Int) : Prop := 1 ≤ g.1 ∧ 1 ≤ g.2 ∧ Nat.gcd g.1.toNat g.2.toNat = 1
theorem cut_low {a b : Int} (ha : 1 ≤ a) (hb : 1 ≤ b) : Low (cut a b) := by
  obtain ⟨⟨h1, _⟩, h2, _⟩ := cut_range ha (Int.le_refl a) hb (Int.le_refl b)
  refine ⟨h1, h2, ?_⟩
  obtain ⟨a, rfl⟩ := Int.eq_ofNat_of_zero_le (show 0 ≤ a by omega)
  obtain ⟨b, rfl⟩ := Int.eq_ofNat_of_zero_le (show 0 ≤ b by omega)
  unfold cut PureStage.gd
  simp only [Int.toNat_natCast]
  rw [← Int.natCast_ediv, ← Int.natCast_ediv, Int.toNat_natCast, Int.toNat_natCast]
  exact Nat.coprime_div_gcd_div_gcd (Nat.gcd_pos_of_pos_right _ (by omega))
theorem cg_low {l : List St} (h : ∀ x ∈ l, OK x = true) : ∀ g, Low g → Low (l.foldl st1 g) := by
  induction l with
  | nil => intro g hg; exact hg
  | cons x l ih =>
    intro g hg
    obtain ⟨⟨s1, _⟩, s3, _⟩ := sg_range (h x (List.mem_cons_self ..))
    refine ih (fun y hy => h y (List.mem_cons_of_mem _ hy)) _ (cut_low ?_ ?_)
    · have := mul_le hg.1 (Int.le_refl _) s1 (Int.le_refl _); exact this.1
    · have := mul_le hg.2.1 (Int.le_refl _) s3 (Int.le_refl _); exact this.1
theorem low_one : Low (1, 1) := ⟨by decide, by decide, by decide⟩
/-- A gain that is a whole number. -/
theorem low_whole {p q n : Int} (h : Low (p, q)) (e : p = n * q) : p = n ∧ q = 1 := by
  obtain ⟨h1, h2, h3⟩ := h
  simp only at h1 h2 h3
  have hn : 0 ≤ n := by
    rcases Int.lt_or_le n 0 with hh | hh
    · have h5 : n * q ≤ -1 * q := Int.mul_le_mul_of_nonneg_right (by omega) (by omega)
      omega
    · exact hh
  obtain ⟨n, rfl⟩ := Int.eq_ofNat_of_zero_le hn
  obtain ⟨q, rfl⟩ := Int.eq_ofNat_of_zero_le (show 0 ≤ q by omega)
  subst e
  rw [← Int.natCast_mul, Int.toNat_natCast, Int.toNat_natCast, Nat.gcd_mul_left_left] at h3
  subst h3
  exact ⟨by simp, rfl⟩
end Go.Proofs.Ytbjilpmnhghfhaa.PureLowest
namespace Go.Proofs.Ytbjilpmnhghfhaa.PureStages2
open Go.RowKit Go.Proofs.Ytbjilpmnhghfhaa.XSt Go.Proofs.Ytbjilpmnhghfhaa.Plain Go.Proofs.Ytbjilpmnhghfhaa.PureStage Go.Proofs.Ytbjilpmnhghfhaa.PureLowest Go.Proofs.YtbjilpmnhghfhaaW.PrintWords Go.Proofs.YtbjilpmnhghfhaaW.PrintLast Go.Proofs.YtbjilpmnhghfhaaW.PrintMore
set_option linter.unusedVariables false
def SG (x : St) : Int × Int × Bool := if OK x = true then ((sg x).1, (sg x).2, true) else (0, 0, false)
theorem iStageGain_ev (x : St) : Ev (fun k => impl_StageGain.f k x.f0 x.f1 x.f2) (SG x) := by
  unfold impl_StageGain.f SG
  refine Ev.bind (IsStage_ev _ _ _) ?_
  show Ev (fun k => if OK x = true then _ else _) _
  cases h : OK x with
  | true => exact ifp rfl (Ev.bind (stageGain_ev h) (done rfl))
  | false => exact ifn Bool.false_ne_true (done rfl)
theorem sStageGain_ev (x : St) : Ev (fun k => spec_StageGain.f k x.f0 x.f1 x.f2) (SG x) := by
  unfold spec_StageGain.f SG
  refine Ev.bind (l7Stage_ev _ _ _) ?_
  show Ev (fun k => if OK x = true then _ else _) _
  cases h : OK x with
  | true => exact ifp rfl (Ev.bind (l7Gain_ev h) (done rfl))
  | false => exact ifn Bool.false_ne_true (done rfl)
def TS (x : St) : Int × Int × Int × Bool := if OK x = true ∧ (x.f0 = 1 ∨ x.f0 = 3) then (x.f0, x.f2, x.f1, true) else (0, 0, 0, false)
theorem iTurn_ev (x : St) : Ev (fun k => impl_TurnStage.f k x.f0 x.f1 x.f2) (TS x) := by
  unfold impl_TurnStage.f TS
  refine Ev.bind (IsStage_ev _ _ _) ?_
  show Ev (fun k => if OK x = true then _ else _) _
  cases h : OK x with
  | false => exact ifn Bool.false_ne_true (done (if_neg (by simp)).symm)
  | true =>
    refine ifp rfl ?_
    by_cases h1 : x.f0 = 1
    · exact ifp h1 (done (if_pos ⟨rfl, Or.inl h1⟩).symm)
    · by_cases h3 : x.f0 = 3
      · exact ifn h1 (ifp h3 (done (if_pos ⟨rfl, Or.inr h3⟩).symm))
      · exact ifn h1 (ifn h3 (done (if_neg (by intro e; omega)).symm))
theorem sTurn_ev (x : St) : Ev (fun k => spec_TurnStage.f k x.f0 x.f1 x.f2) (TS x) := by
  unfold spec_TurnStage.f TS
  refine Ev.bind (l7Stage_ev _ _ _) ?_
  show Ev (fun k => if OK x = true then _ else _) _
  cases h : OK x with
  | false => exact ifn Bool.false_ne_true (done (if_neg (by simp)).symm)
  | true =>
    refine ifp rfl ?_
    by_cases h1 : x.f0 = 1
    · exact ifp h1 (done (if_pos ⟨rfl, Or.inl h1⟩).symm)
    · by_cases h3 : x.f0 = 3
      · exact ifn h1 (ifp h3 (done (if_pos ⟨rfl, Or.inr h3⟩).symm))
      · exact ifn h1 (ifn h3 (done (if_neg (by intro e; omega)).symm))
theorem turn_say {x : St} (h : (TS x).2.2.2 = true) : OK x = true ∧ TS x = (x.f0, x.f2, x.f1, true) ∧ OK ⟨x.f0, x.f2, x.f1⟩ = true ∧ sg ⟨x.f0, x.f2, x.f1⟩ = ((sg x).2, (sg x).1) := by
  unfold TS at h ⊢
  split at h
  · next c =>
    refine ⟨c.1, by rw [if_pos c], ?_, ?_⟩
    · have := c.1
      unfold OK StOK at this ⊢
      rw [if_pos c.2] at this
      simp only
      rw [if_pos c.2]
      simp only [Bool.and_eq_true] at this ⊢
      exact ⟨this.2, this.1⟩
    · unfold sg
      simp only
      rw [if_neg (by omega), if_neg (by omega), if_neg (by omega), if_neg (by omega)]
      exact cut_comm _ _
  · cases h
theorem sIsStage_ev (x : St) : Ev (fun k => spec_IsStage.f k x.f0 x.f1 x.f2) (OK x) := by
  unfold spec_IsStage.f
  exact Ev.bind (l7Stage_ev _ _ _) (done rfl)
theorem iChainGain_ev {l : List St} (v : ChainV l) : Ev (fun k => impl_ChainGain.f k l) ((cg l).1, (cg l).2, true) := by
  have hn := v.n
  have h1 := isChain_ev l (by omega)
  have hc : ChainOK l 5 = true := by unfold ChainOK; simp only [Bool.and_eq_true, decide_eq_true_eq, List.all_eq_true]; exact ⟨v.each, by omega⟩
  rw [hc] at h1
  unfold impl_ChainGain.f
  exact Ev.bind h1 (ifp (Eq.refl true) (Ev.bind (chainGain_ev v) (done rfl)))
theorem vInts_l0 (l : List Int) (hn : l.length ≤ 140737488355328) : ∀ i, i ≤ l.length → Ev (fun k => laws_vInts.l0 k l l (i : Int)) true := by
  refine downTo l.length ?_ ?_
  · exact Ev.step (fun k => by simp only [laws_vInts.l0]; exact rfl) (ifn (by omega) (done rfl))
  · intro i hi ih
    refine Ev.step (fun k => by simp only [laws_vInts.l0]; exact rfl) (ifp (by omega) (ifp (by omega) (ifp (by omega) (ifp (Eq.refl (rd l (i : Int))) ?_))))
    rw [wrapS hi hn]; exact ih
theorem vInts_ev (l : List Int) (hn : l.length ≤ 140737488355328) : Ev (fun k => laws_vInts.f k l l) true := by
  unfold laws_vInts.f
  exact ifp rfl (vInts_l0 l hn 0 (Nat.zero_le _))
end Go.Proofs.Ytbjilpmnhghfhaa.PureStages2
namespace Go.Proofs.Ytbjilpmnhghfhaa.PureChoices
open Go.RowKit Go.Proofs.Ytbjilpmnhghfhaa.XSt Go.Proofs.Ytbjilpmnhghfhaa.Plain Go.Proofs.YtbjilpmnhghfhaaW.PrintWords Go.Proofs.YtbjilpmnhghfhaaW.PrintLast Go.Proofs.YtbjilpmnhghfhaaW.PrintMore
set_option linter.unusedVariables false

/-! ### choices of places -/
/-- The places from one on. -/
def R (n i : Nat) : List Nat := List.range' i (n - i)
theorem R_nil (n : Nat) : R n n = [] := by unfold R; rw [Nat.sub_self]; rfl
theorem R_cons {n i : Nat} (h : i < n) : R n i = i :: R n (i + 1) := by
  unfold R
  rw [show n - i = (n - (i + 1)) + 1 from by omega, List.range'_succ]
def Val (n : Nat) (s : List Int) : Prop := ∀ x ∈ s, 0 ≤ x ∧ x < (n : Int)
/-- The first place that may follow. -/
def nx (s : List Int) : Nat := if s.length = 0 then 0 else (rd s ((s.length - 1 : Nat) : Int) + 1).toNat
theorem last_val {n : Nat} {s : List Int} (v : Val n s) (h : 0 < s.length) : 0 ≤ rd s ((s.length - 1 : Nat) : Int) ∧ rd s ((s.length - 1 : Nat) : Int) < (n : Int) := by
  rw [rd_lt (show s.length - 1 < s.length by omega)]
  exact v _ (List.getElem_mem _)
theorem nx_le {n : Nat} {s : List Int} (v : Val n s) : nx s ≤ n := by
  unfold nx
  split
  · omega
  · have := last_val v (by omega)
    omega
theorem val_snoc {n : Nat} {s : List Int} (v : Val n s) {i : Nat} (h : i < n) : Val n (s ++ [(i : Int)]) := by
  intro x hx
  rcases List.mem_append.1 hx with hx | hx
  · exact v x hx
  · rw [List.mem_singleton] at hx; omega
def ext (n : Nat) (s : List Int) : List (List Int) := (R n (nx s)).map fun i : Nat => s ++ [(i : Int)]
theorem mem_R {n i j : Nat} (h : j ∈ R n i) (hi : i ≤ n) : j < n := by
  unfold R at h
  rw [List.mem_range'_1] at h
  omega
theorem ext_mem {n : Nat} {s : List Int} (v : Val n s) : ∀ q ∈ ext n s, q.length = s.length + 1 ∧ Val n q := by
  intro q hq
  obtain ⟨i, hi, rfl⟩ := List.mem_map.1 hq
  exact ⟨by simp, val_snoc v (mem_R hi (nx_le v))⟩
theorem ext_len {n : Nat} (s : List Int) : (ext n s).length ≤ n := by
  unfold ext R; rw [List.length_map, List.length_range']; omega
/-- The choices of so many places, in order. -/
def SS (n : Nat) : Nat → List (List Int)
  | 0 => [[]]
  | t + 1 => (SS n t).flatMap (ext n)
theorem SS_mem (n : Nat) : ∀ t, ∀ s ∈ SS n t, s.length = t ∧ Val n s := by
  intro t
  induction t with
  | zero => intro s hs; rw [SS, List.mem_singleton] at hs; subst hs; exact ⟨rfl, fun x hx => by cases hx⟩
  | succ t ih =>
    intro s hs
    rw [SS, List.mem_flatMap] at hs
    obtain ⟨p, hp, hq⟩ := hs
    obtain ⟨h1, h2⟩ := ih p hp
    obtain ⟨h3, h4⟩ := ext_mem h2 s hq
    exact ⟨by omega, h4⟩
theorem flat_len {n : Nat} (L : List (List Int)) : (L.flatMap (ext n)).length ≤ n * L.length := by
  induction L with
  | nil => simp
  | cons x L ih =>
    rw [List.flatMap_cons, List.length_append, List.length_cons, Nat.mul_succ]
    have := ext_len (n := n) x
    omega
theorem SS_len {n : Nat} (hn : n ≤ 8) : ∀ t, (SS n t).length ≤ 8 ^ t := by
  intro t
  induction t with
  | zero => simp [SS]
  | succ t ih =>
    have h1 := flat_len (n := n) (SS n t)
    have h2 : n * (SS n t).length ≤ 8 * 8 ^ t := Nat.mul_le_mul hn ih
    rw [SS, Nat.pow_succ]
    omega
theorem SS_small {n : Nat} (hn : n ≤ 8) {t : Nat} (ht : t ≤ 5) : (SS n t).length ≤ 32768 := by
  have h1 := SS_len hn t
  have h2 : (8 : Nat) ^ t ≤ 8 ^ 5 := Nat.pow_le_pow_right (by decide) ht
  have h3 : (8 : Nat) ^ 5 = 32768 := by decide
  omega
/-- What may follow some places, in the order in which the program goes through it. -/
def E (n : Nat) : Nat → List Int → List (List Int)
  | 0, p => [p]
  | m + 1, p => (R n (nx p)).flatMap fun i : Nat => E n m (p ++ [(i : Int)])
theorem E_ext (n : Nat) : ∀ m p, E n (m + 1) p = (E n m p).flatMap (ext n) := by
  intro m
  induction m with
  | zero =>
    intro p
    show (R n (nx p)).flatMap (fun i : Nat => [p ++ [(i : Int)]]) = [p].flatMap (ext n)
    rw [List.flatMap_singleton]
    unfold ext
    rw [List.map_eq_flatMap]
  | succ m ih =>
    intro p
    show (R n (nx p)).flatMap (fun i : Nat => E n (m + 1) (p ++ [(i : Int)])) = ((R n (nx p)).flatMap fun i : Nat => E n m (p ++ [(i : Int)])).flatMap (ext n)
    rw [List.flatMap_assoc]
    congr 1
    funext i
    exact ih _
theorem E_SS (n : Nat) : ∀ m, E n m [] = SS n m := by
  intro m
  induction m with
  | zero => rfl
  | succ m ih => rw [E_ext, ih]; rfl

/-! ### the reference's lists -/
theorem rdL3_lt {S : List (List Int)} {j : Nat} (h : j < S.length) : rd_L5 S (j : Int) = S[j] := by
  unfold rd_L5; rw [Int.toNat_natCast]; exact getD_lt h _
theorem sets_l2 (n m t : Nat) (hn : n ≤ 8) (S : List (List Int)) (hS : S.length ≤ 32768) (j : Nat) (hj : j < S.length) (hs : S[j].length ≤ 8) : ∀ i, i ≤ n → ∀ (acc : List (List Int)) (r : List (List Int)), acc.length + (n - i) ≤ 1000000 → Ev (fun k => spec_l7Sets.l1 k (n : Int) (m : Int) S (t : Int) (acc ++ (R n i).map fun q : Nat => S[j] ++ [(q : Int)]) ((j + 1 : Nat) : Int)) r → Ev (fun k => spec_l7Sets.l2 k (n : Int) (m : Int) S (t : Int) acc (j : Int) (i : Int)) r := by
  refine downTo n ?_ ?_
  · intro acc r ha h
    rw [R_nil, List.map_nil, List.append_nil] at h
    refine Ev.step (fun k => by simp only [spec_l7Sets.l2]; exact rfl) (ifn (by omega) ?_)
    rw [wrapS hj (by omega)]; exact h
  · intro i hi ih acc r ha h
    refine Ev.step (fun k => by simp only [spec_l7Sets.l2]; exact rfl) (ifp (by omega) (ifp (by omega) (ifp (by omega) ?_)))
    rw [rdL3_lt hj, wrapS hi (by omega)]
    refine somb (a := S[j]) ?_ (ifp (by omega) (ifp (by omega) ?_))
    · unfold spec_l1Own.f
      simp only [Option.bind_some, List.length_nil, List.nil_append]
      rw [if_pos (by omega)]
    · refine ih _ r (by rw [List.length_append, List.length_singleton]; omega) ?_
      rw [R_cons hi, List.map_cons] at h
      rw [List.append_assoc, List.singleton_append]
      exact h
theorem sets_l1 (n m t : Nat) (hn : n ≤ 8) (ht : t ≤ 5) (S : List (List Int)) (hS : S.length ≤ 32768) (hm : ∀ s ∈ S, s.length = t ∧ Val n s) (r : List (List Int)) : ∀ j, j ≤ S.length → ∀ acc : List (List Int), acc.length + 8 * (S.length - j) ≤ 900000 → Ev (fun k => spec_l7Sets.l0 k (n : Int) (m : Int) (acc ++ (S.drop j).flatMap (ext n)) ((t + 1 : Nat) : Int)) r → Ev (fun k => spec_l7Sets.l1 k (n : Int) (m : Int) S (t : Int) acc (j : Int)) r := by
  refine downTo S.length ?_ ?_
  · intro acc ha h
    rw [List.drop_length, List.flatMap_nil, List.append_nil] at h
    refine Ev.step (fun k => by simp only [spec_l7Sets.l1]; exact rfl) (ifn (by omega) ?_)
    rw [w64 (by omega) (by omega), show (t : Int) + 1 = ((t + 1 : Nat) : Int) from by omega]; exact h
  · intro j hj ih acc ha h
    obtain ⟨h1, h2⟩ := hm S[j] (List.getElem_mem hj)
    have hnx := nx_le h2
    have hxl : ((R n (nx S[j])).map fun q : Nat => S[j] ++ [(q : Int)]).length ≤ n := ext_len S[j]
    have key : Ev (fun k => spec_l7Sets.l2 k (n : Int) (m : Int) S (t : Int) acc (j : Int) ((nx S[j] : Nat) : Int)) r := by
      refine sets_l2 n m t hn S hS j hj (by omega) (nx S[j]) hnx acc r (by omega) (ih _ (by rw [List.length_append]; omega) ?_)
      rw [drop_cons hj, List.flatMap_cons] at h
      rw [List.append_assoc]
      exact h
    have key2 : Ev (fun k => spec_l7Sets.j2 k (n : Int) (m : Int) S (t : Int) acc (j : Int) ((nx S[j] : Nat) : Int)) r := Ev.step (fun k => by rw [spec_l7Sets.j2]) key
    refine Ev.step (fun k => by simp only [spec_l7Sets.l1]; exact rfl) (ifp (by omega) ?_)
    by_cases hz : t = 0
    · have e : nx S[j] = 0 := by unfold nx; rw [if_pos (by omega)]
      rw [e] at key2
      exact ifn (by omega) key2
    · have hw : wrap64 ((t : Int) - 1) = ((t - 1 : Nat) : Int) := by rw [w64 (by omega) (by omega)]; omega
      have lv := last_val h2 (by omega)
      rw [show S[j].length - 1 = t - 1 from by omega] at lv
      have e : ((nx S[j] : Nat) : Int) = rd S[j] ((t - 1 : Nat) : Int) + 1 := by
        unfold nx
        rw [if_neg (by omega), show S[j].length - 1 = t - 1 from by omega]
        omega
      rw [e] at key2
      rw [rdL3_lt hj, hw]
      refine ifp (by omega) (ifp (by omega) (ifp (by omega) (ifp (by omega) ?_)))
      rw [w64 (by omega) (by omega)]
      exact key2
theorem sets_l0 (n m : Nat) (hn : n ≤ 8) (hm : m ≤ 5) : ∀ t, t ≤ m → Ev (fun k => spec_l7Sets.l0 k (n : Int) (m : Int) (SS n t) (t : Int)) (SS n m) := by
  refine downTo m ?_ ?_
  · exact Ev.step (fun k => by simp only [spec_l7Sets.l0]; exact rfl) (ifn (by omega) (done rfl))
  · intro t ht ih
    have hl := SS_small hn (t := t) (by omega)
    refine Ev.step (fun k => by simp only [spec_l7Sets.l0]; exact rfl) (ifp (by omega) ?_)
    refine sets_l1 n m t hn (by omega) (SS n t) hl (SS_mem n t) _ 0 (Nat.zero_le _) [] (by simp only [List.length_nil]; omega) ?_
    rw [List.drop_zero, List.nil_append]
    exact ih
theorem l7Sets_ev (n m : Nat) (hn : n ≤ 8) (hm : m ≤ 5) : Ev (fun k => spec_l7Sets.f k (n : Int) (m : Int)) (SS n m) := sets_l0 n m hn hm 0 (Nat.zero_le _)
end Go.Proofs.Ytbjilpmnhghfhaa.PureChoices
namespace Go.Proofs.Ytbjilpmnhghfhaa.PureGainExact
open Go.RowKit Go.Proofs.Ytbjilpmnhghfhaa.XSt Go.Proofs.Ytbjilpmnhghfhaa.Plain Go.Proofs.Ytbjilpmnhghfhaa.PureStage Go.Proofs.Ytbjilpmnhghfhaa.PureChoices Go.Proofs.YtbjilpmnhghfhaaW.PrintWords Go.Proofs.YtbjilpmnhghfhaaW.PrintLast Go.Proofs.YtbjilpmnhghfhaaW.PrintMore
set_option linter.unusedVariables false

/-- The stages at some places. -/
def pk (kit : List St) (q : List Int) : List St := q.map fun x => rd_T37 kit x
theorem rd_ok {kit : List St} (h : ∀ x ∈ kit, OK x = true) {x : Int} (h0 : 0 ≤ x) (h1 : x < (kit.length : Int)) : OK (rd_T37 kit x) = true := by
  obtain ⟨n, rfl⟩ := Int.eq_ofNat_of_zero_le h0
  have hn : n < kit.length := by omega
  rw [rdS hn]
  exact h _ (List.getElem_mem hn)
theorem pk_V {kit : List St} (h : ∀ x ∈ kit, OK x = true) {q : List Int} (v : Val kit.length q) (hq : q.length ≤ 5) : ChainV (pk kit q) := by
  refine ⟨by unfold pk; rw [List.length_map]; exact hq, fun x hx => ?_⟩
  obtain ⟨y, hy, rfl⟩ := List.mem_map.1 hx
  exact rd_ok h (v y hy).1 (v y hy).2
/-- Does a choice of stages do? -/
def good (g : Int) (kit : List St) (q : List Int) : Bool := (cg (pk kit q)).1 == wrap64 (g * (cg (pk kit q)).2)
theorem picked_l0 (kit : List St) (q : List Int) (v : Val kit.length q) (hq : q.length ≤ 1000) : ∀ i, i ≤ q.length → Ev (fun k => spec_l7Picked.l0 k kit q (pk kit (q.take i)) (i : Int)) (pk kit q) := by
  refine downTo q.length ?_ ?_
  · refine Ev.step (fun k => by simp only [spec_l7Picked.l0]; exact rfl) (ifn (by omega) (done ?_))
    rw [List.take_length]
  · intro i hi ih
    obtain ⟨h0, h1⟩ := v q[i] (List.getElem_mem hi)
    have hl : (pk kit (q.take i)).length = i := by unfold pk; rw [List.length_map, List.length_take]; omega
    refine Ev.step (fun k => by simp only [spec_l7Picked.l0]; exact rfl) (ifp (by omega) (ifp (by omega) ?_))
    rw [rd_lt hi]
    refine ifp h0 (ifp h1 (ifp (by omega) ?_))
    rw [wrapS hi (by omega)]
    rw [take_succ hi] at ih
    unfold pk at ih ⊢
    rw [List.map_append] at ih
    exact ih
theorem picked_ev (kit : List St) (q : List Int) (v : Val kit.length q) (hq : q.length ≤ 1000) : Ev (fun k => spec_l7Picked.f k kit q) (pk kit q) := picked_l0 kit q v hq 0 (Nat.zero_le _)

def ans : Option (List Int) → List Int × Bool
  | some q => (q, true)
  | none => ([], false)
/-- All choices of so many places and more. -/
def C (n t m : Nat) : List (List Int) := (List.range' m (t + 1 - m)).flatMap (SS n)
theorem C_nil (n t : Nat) : C n t (t + 1) = [] := by unfold C; rw [Nat.sub_self]; rfl
theorem C_cons {n t m : Nat} (h : m < t + 1) : C n t m = SS n m ++ C n t (m + 1) := by
  unfold C
  rw [show t + 1 - m = (t + 1 - (m + 1)) + 1 from by omega, List.range'_succ, List.flatMap_cons]
def top (n : Nat) : Nat := if n < 5 then n else 5
theorem find_l1 (g : Int) (kit : List St) (hn : kit.length ≤ 8) (hk : ∀ x ∈ kit, OK x = true) (m : Nat) (hm : m ≤ 5) (o : Option (List Int)) (ho : Ev (fun k => spec_l7Find.l0 k kit g true ((m + 1 : Nat) : Int)) (ans o)) :
    ∀ j, j ≤ (SS kit.length m).length → Ev (fun k => spec_l7Find.l1 k kit g true (m : Int) (SS kit.length m) (j : Int)) (ans ((((SS kit.length m).drop j).find? (good g kit)).or o)) := by
  have hl := SS_small hn hm
  refine downTo (SS kit.length m).length ?_ ?_
  · refine Ev.step (fun k => by simp only [spec_l7Find.l1]; exact rfl) (ifn (by omega) ?_)
    rw [w64 (by omega) (by omega), List.drop_length, show (m : Int) + 1 = ((m + 1 : Nat) : Int) from by omega]
    exact ho
  · intro j hj ih
    obtain ⟨hq, hv⟩ := SS_mem kit.length m _ (List.getElem_mem hj)
    have hc := pk_V hk hv (by omega)
    have hw := wrapS hj (by omega)
    refine Ev.step (fun k => by simp only [spec_l7Find.l1]; exact rfl) (ifp (by omega) (ifp (by omega) ?_))
    rw [rdL3_lt hj, hw]
    refine Ev.bind (picked_ev kit _ hv (by omega)) (Ev.bind (l7Chain_ev hc) ?_)
    rw [drop_cons hj]
    have yes : good g kit (SS kit.length m)[j] = true → ans ((((SS kit.length m)[j] :: (SS kit.length m).drop (j + 1)).find? (good g kit)).or o) = ((SS kit.length m)[j], true) := by
      intro h; rw [List.find?_cons_of_pos h]; rfl
    have nope : ¬ good g kit (SS kit.length m)[j] = true → ans ((((SS kit.length m)[j] :: (SS kit.length m).drop (j + 1)).find? (good g kit)).or o) = ans ((((SS kit.length m).drop (j + 1)).find? (good g kit)).or o) := by
      intro h; rw [List.find?_cons_of_neg h]
    by_cases e : (cg (pk kit (SS kit.length m)[j])).1 = wrap64 (g * (cg (pk kit (SS kit.length m)[j])).2)
    · rw [yes (by unfold good; simp [e])]
      exact ifp e (done rfl)
    · rw [nope (by unfold good; simp [e])]
      exact ifn e (ifp trivial ih)
theorem find_l0 (g : Int) (kit : List St) (hn : kit.length ≤ 8) (hk : ∀ x ∈ kit, OK x = true) : ∀ m, m ≤ top kit.length + 1 → Ev (fun k => spec_l7Find.l0 k kit g true (m : Int)) (ans ((C kit.length (top kit.length) m).find? (good g kit))) := by
  have ht : top kit.length ≤ 5 ∧ top kit.length ≤ kit.length ∧ (kit.length = top kit.length ∨ top kit.length = 5) := by unfold top; split <;> omega
  refine downTo (top kit.length + 1) ?_ ?_
  · rw [C_nil]
    have no : Ev (fun k => spec_l7Find.j1 k kit g true ((top kit.length + 1 : Nat) : Int) false) (ans ([].find? (good g kit))) := Ev.step (fun k => by simp only [spec_l7Find.j1]; exact rfl) (ifn Bool.false_ne_true (done rfl))
    refine Ev.step (fun k => by simp only [spec_l7Find.l0]; exact rfl) (ifc (fun h => ?_) (fun h => no))
    rw [decide_eq_false (by omega)]; exact no
  · intro m hm ih
    rw [C_cons hm, List.find?_append]
    have key := find_l1 g kit hn hk m (by omega) _ ih 0 (Nat.zero_le _)
    rw [List.drop_zero] at key
    refine Ev.step (fun k => by simp only [spec_l7Find.l0]; exact rfl) (ifp (by omega) ?_)
    rw [decide_eq_true (show (m : Int) ≤ 5 by omega)]
    refine Ev.step (fun k => by simp only [spec_l7Find.j1]; exact rfl) (ifp (Eq.refl true) (Ev.bind (l7Sets_ev kit.length m hn (by omega)) ?_))
    exact key

/-! ### the program -/
def Tells (r : List Int × Bool) : Option (List Int) → Prop
  | some q => r = (q, true)
  | none => r.2 = false
theorem chosen_l0 (g : Int) (kit : List St) (hk : ∀ x ∈ kit, OK x = true) (p : List Int) (v : Val kit.length p) (hp : p.length ≤ 5) : ∀ i, i ≤ p.length → Ev (fun k => impl_chosen_ExactGain_1.l0 g k kit p (pk kit (p.take i)) p (p.length : Int) (i : Int)) (p, good g kit p) := by
  refine downTo p.length ?_ ?_
  · refine Ev.step (fun k => by simp only [impl_chosen_ExactGain_1.l0]; exact rfl) (ifn (by omega) ?_)
    rw [List.take_length]
    exact Ev.bind (chainGain_ev (pk_V hk v hp)) (somb rfl (done rfl))
  · intro i hi ih
    obtain ⟨h0, h1⟩ := v p[i] (List.getElem_mem hi)
    have hl : (pk kit (p.take i)).length = i := by unfold pk; rw [List.length_map, List.length_take]; omega
    refine Ev.step (fun k => by simp only [impl_chosen_ExactGain_1.l0]; exact rfl) (ifp (by omega) (ifp (by omega) (ifp (by omega) ?_)))
    rw [rd_lt hi]
    refine ifp h0 (ifp h1 (ifp (by omega) ?_))
    rw [wrapS hi (by omega)]
    rw [take_succ hi] at ih
    unfold pk at ih ⊢
    rw [List.map_append] at ih
    exact ih
theorem chosen_ev (g : Int) (kit : List St) (hn : kit.length ≤ 8) (hk : ∀ x ∈ kit, OK x = true) : ∀ m : Nat, ∀ p : List Int, Val kit.length p → p.length + m ≤ 5 → ∃ r, Ev (fun k => impl_chosen_ExactGain_1.f g k kit p (m : Int)) r ∧ Tells r ((E kit.length m p).find? (good g kit)) := by
  intro m
  induction m with
  | zero =>
    intro p v hp
    refine ⟨(p, good g kit p), Ev.step (fun k => by simp only [impl_chosen_ExactGain_1.f]; exact rfl) (ifp (by omega) (chosen_l0 g kit hk p v (by omega) 0 (Nat.zero_le _))), ?_⟩
    show Tells _ ([p].find? (good g kit))
    cases h : good g kit p with
    | true => rw [List.find?_cons_of_pos h]; rfl
    | false => rw [List.find?_cons_of_neg (by rw [h]; exact Bool.false_ne_true)]; rfl
  | succ m ih =>
    intro p v hp
    have loop : ∀ i, i ≤ kit.length → ∃ r, Ev (fun k => impl_chosen_ExactGain_1.l1 g k kit p ((m + 1 : Nat) : Int) (i : Int)) r ∧ Tells r (((R kit.length i).flatMap fun i : Nat => E kit.length m (p ++ [(i : Int)])).find? (good g kit)) := by
      refine downTo kit.length ?_ ?_
      · refine ⟨([], false), Ev.step (fun k => by simp only [impl_chosen_ExactGain_1.l1]; exact rfl) (ifn (by omega) (done rfl)), ?_⟩
        rw [R_nil]; rfl
      · rintro i hi ⟨r, e, t⟩
        obtain ⟨r1, e1, t1⟩ := ih (p ++ [(i : Int)]) (val_snoc v hi) (by rw [List.length_append, List.length_singleton]; omega)
        have hm : wrap64 (((m + 1 : Nat) : Int) - 1) = (m : Int) := by rw [w64 (by omega) (by omega)]; omega
        rw [R_cons hi, List.flatMap_cons, List.find?_append]
        have start : ∀ r2, Ev (fun k => if r1.2 = true then some (r1.1, true) else impl_chosen_ExactGain_1.l1 g k kit p ((m + 1 : Nat) : Int) (wrap64 ((i : Int) + 1))) r2 → Ev (fun k => impl_chosen_ExactGain_1.l1 g k kit p ((m + 1 : Nat) : Int) (i : Int)) r2 := by
          intro r2 h2
          refine Ev.step (fun k => by simp only [impl_chosen_ExactGain_1.l1]; exact rfl) (ifp (by omega) (somb rfl (ifp (by simp only [List.length_nil]; omega) (somb rfl (ifp (by simp only [List.nil_append]; omega) ?_)))))
          rw [hm, List.nil_append]
          exact Ev.bind e1 h2
        cases ho : (E kit.length m (p ++ [(i : Int)])).find? (good g kit) with
        | some q =>
          rw [ho] at t1
          have t2 : r1 = (q, true) := t1
          subst t2
          exact ⟨(q, true), start _ (ifp (Eq.refl true) (done rfl)), rfl⟩
        | none =>
          rw [ho] at t1
          have t2 : r1.2 = false := t1
          refine ⟨r, start _ (ifn (by rw [t2]; exact Bool.false_ne_true) ?_), t⟩
          rw [wrapS hi (by omega)]; exact e
    obtain ⟨r, e, t⟩ := loop (nx p) (nx_le v)
    have e' : Ev (fun k => impl_chosen_ExactGain_1.j1 g k kit p ((m + 1 : Nat) : Int) ((nx p : Nat) : Int)) r := Ev.step (fun k => by rw [impl_chosen_ExactGain_1.j1]) e
    refine ⟨r, Ev.step (fun k => by simp only [impl_chosen_ExactGain_1.f]; exact rfl) (ifn (by omega) ?_), t⟩
    by_cases hz : p.length = 0
    · have e0 : nx p = 0 := by unfold nx; rw [if_pos hz]
      rw [e0] at e'
      exact ifn (by omega) e'
    · have lv := last_val v (by omega)
      have hw : wrap64 ((p.length : Int) - 1) = ((p.length - 1 : Nat) : Int) := by rw [w64 (by omega) (by omega)]; omega
      have e0 : ((nx p : Nat) : Int) = rd p ((p.length - 1 : Nat) : Int) + 1 := by unfold nx; rw [if_neg hz]; omega
      rw [e0] at e'
      rw [hw]
      refine ifp (by omega) (ifp (by omega) (ifp (by omega) ?_))
      rw [w64 (by omega) (by omega)]
      exact e'
theorem fewest_l1 (g : Int) (kit : List St) (hn : kit.length ≤ 8) (hk : ∀ x ∈ kit, OK x = true) : ∀ m, m ≤ top kit.length + 1 → Ev (fun k => impl_fewest_ExactGain_1.l1 g k kit (m : Int)) (ans ((C kit.length (top kit.length) m).find? (good g kit))) := by
  have ht : top kit.length ≤ 5 ∧ mn 5 (kit.length : Int) = (top kit.length : Int) := by unfold top mn; repeat' split <;> omega
  refine downTo (top kit.length + 1) ?_ ?_
  · rw [C_nil]
    refine Ev.step (fun k => by simp only [impl_fewest_ExactGain_1.l1]; exact rfl) ?_
    rw [ht.2]
    exact ifn (by omega) (done rfl)
  · intro m hm ih
    rw [C_cons hm, List.find?_append, ← E_SS]
    obtain ⟨r, e, t⟩ := chosen_ev g kit hn hk m [] (fun x hx => by cases hx) (by simp only [List.length_nil]; omega)
    refine Ev.step (fun k => by simp only [impl_fewest_ExactGain_1.l1]; exact rfl) ?_
    rw [ht.2]
    refine ifp (by omega) (Ev.bind e ?_)
    cases ho : (E kit.length m []).find? (good g kit) with
    | some q =>
      rw [ho] at t
      have t2 : r = (q, true) := t
      subst t2
      exact ifp (Eq.refl true) (done rfl)
    | none =>
      rw [ho] at t
      have t2 : r.2 = false := t
      refine ifn (by rw [t2]; exact Bool.false_ne_true) ?_
      rw [w64 (by omega) (by omega), show (m : Int) + 1 = ((m + 1 : Nat) : Int) from by omega]
      exact ih
theorem fewest_l0 (g : Int) (kit : List St) (hn : kit.length ≤ 8) (hk : ∀ x ∈ kit, OK x = true) : ∀ i, i ≤ kit.length → Ev (fun k => impl_fewest_ExactGain_1.l0 g k kit kit (kit.length : Int) (i : Int)) (ans ((C kit.length (top kit.length) 0).find? (good g kit))) := by
  refine downTo kit.length ?_ ?_
  · exact Ev.step (fun k => by simp only [impl_fewest_ExactGain_1.l0]; exact rfl) (ifn (by omega) (fewest_l1 g kit hn hk 0 (by omega)))
  · intro i hi ih
    refine Ev.step (fun k => by simp only [impl_fewest_ExactGain_1.l0]; exact rfl) (ifp (by omega) (ifp (by omega) (ifp (by omega) ?_)))
    rw [rdS hi]
    refine Ev.bind (IsStage_ev _ _ _) (ifp (hk _ (List.getElem_mem hi)) ?_)
    rw [wrapS hi (by omega)]; exact ih
theorem fewest_bad (g : Int) (kit : List St) (hn : kit.length ≤ 8) : ∀ i, i ≤ kit.length → (kit.drop i).all OK = false → Ev (fun k => impl_fewest_ExactGain_1.l0 g k kit kit (kit.length : Int) (i : Int)) ([], false) := by
  refine downTo kit.length ?_ ?_
  · intro h; rw [List.drop_length] at h; cases h
  · intro i hi ih h
    rw [drop_cons hi, List.all_cons] at h
    refine Ev.step (fun k => by simp only [impl_fewest_ExactGain_1.l0]; exact rfl) (ifp (by omega) (ifp (by omega) (ifp (by omega) ?_)))
    rw [rdS hi]
    refine Ev.bind (IsStage_ev _ _ _) ?_
    show Ev (fun k => if OK kit[i] = true then _ else _) _
    cases hx : OK kit[i] with
    | true => rw [hx, Bool.true_and] at h; refine ifp rfl ?_; rw [wrapS hi (by omega)]; exact ih h
    | false => exact ifn Bool.false_ne_true (done rfl)

/-- Are a list and a gain valid? -/
def KitOK (kit : List St) (g : Int) : Bool := (kit.all OK && decide (kit.length ≤ 8)) && decide (1 ≤ g ∧ g ≤ 1000000)
/-- The fewest stages, of several the first ones. -/
def few (g : Int) (kit : List St) : List Int × Bool := if KitOK kit g = true then ans ((C kit.length (top kit.length) 0).find? (good g kit)) else ([], false)
theorem spec_ev (kit : List St) (hl : kit.length ≤ 140737488355328) (g : Int) : Ev (fun k => spec_ExactGain.f k kit g) (few g kit) := by
  have h1 := l7Stages_ev kit 8 hl
  have e8 : ChainOK kit 8 = (kit.all OK && decide (kit.length ≤ 8)) := by unfold ChainOK; congr 1; simp only [decide_eq_decide]; omega
  rw [e8] at h1
  unfold spec_ExactGain.f spec_l7Kit.f few KitOK
  rw [l1In_eq]
  cases hr : (kit.all OK && decide (kit.length ≤ 8)) with
  | false =>
    rw [hr] at h1
    rw [Bool.false_and, if_neg Bool.false_ne_true]
    exact Ev.bind (Ev.bind h1 (ifn Bool.false_ne_true (done rfl))) (ifn Bool.false_ne_true (done rfl))
  | true =>
    rw [hr] at h1
    have hk : (∀ x ∈ kit, OK x = true) ∧ kit.length ≤ 8 := by
      simp only [Bool.and_eq_true, decide_eq_true_eq, List.all_eq_true] at hr; exact hr
    rw [Bool.true_and]
    cases hg : decide (1 ≤ g ∧ g ≤ 1000000) with
    | false => rw [if_neg Bool.false_ne_true]; exact Ev.bind (Ev.bind h1 (ifp (Eq.refl true) (somb rfl (done rfl)))) (ifn Bool.false_ne_true (done rfl))
    | true => rw [if_pos rfl]; exact Ev.bind (Ev.bind h1 (ifp (Eq.refl true) (somb rfl (done rfl)))) (ifp (Eq.refl true) (Ev.bind (find_l0 g kit hk.2 hk.1 0 (by omega)) (done rfl)))
theorem impl_ev (kit : List St) (hl : kit.length ≤ 140737488355328) (g : Int) : Ev (fun k => impl_ExactGain.f k kit g) (few g kit) := by
  unfold impl_ExactGain.f impl_fewest_ExactGain_1.f few KitOK
  rw [within_eq]
  have no : Ev (fun k => impl_fewest_ExactGain_1.j0 g k kit true) ([], false) := Ev.step (fun k => by simp only [impl_fewest_ExactGain_1.j0]; exact rfl) (ifp (Eq.refl true) (done rfl))
  by_cases h8 : kit.length ≤ 8
  · refine ifn (by omega) (somb rfl ?_)
    cases hg : decide (1 ≤ g ∧ g ≤ 1000000) with
    | false => rw [Bool.and_false, if_neg Bool.false_ne_true]; exact no
    | true =>
      rw [decide_eq_true h8, Bool.and_true, Bool.and_true]
      refine Ev.step (fun k => by simp only [impl_fewest_ExactGain_1.j0]; exact rfl) (ifn (by decide) ?_)
      cases ha : kit.all OK with
      | false => rw [if_neg Bool.false_ne_true]; exact fewest_bad g kit h8 0 (Nat.zero_le _) ha
      | true => rw [if_pos rfl]; exact fewest_l0 g kit h8 (by simpa using ha) 0 (Nat.zero_le _)
  · rw [decide_eq_false h8, Bool.and_false, Bool.false_and, if_neg Bool.false_ne_true]
    exact ifp (by omega) no
theorem C_mem (n t : Nat) : ∀ m, m ≤ t + 1 → ∀ q ∈ C n t m, q.length ≤ t ∧ Val n q := by
  refine downTo (t + 1) ?_ ?_
  · intro q hq; rw [C_nil] at hq; cases hq
  · intro m hm ih q hq
    rw [C_cons hm, List.mem_append] at hq
    rcases hq with hq | hq
    · obtain ⟨h1, h2⟩ := SS_mem n m q hq
      exact ⟨by omega, h2⟩
    · exact ih q hq
theorem few_len (g : Int) (kit : List St) : (few g kit).1.length ≤ 5 := by
  unfold few
  split
  · cases h : (C kit.length (top kit.length) 0).find? (good g kit) with
    | none => simp [ans]
    | some q =>
      have := (C_mem kit.length (top kit.length) 0 (by omega) q (List.mem_of_find?_eq_some h)).1
      have ht : top kit.length ≤ 5 := by unfold top; split <;> omega
      show q.length ≤ 5
      omega
  · simp
end Go.Proofs.Ytbjilpmnhghfhaa.PureGainExact
namespace Go.Proofs.Ytbjilpmnhghfhaa.PureGainReach
open Go.RowKit Go.Proofs.Ytbjilpmnhghfhaa.XSt Go.Proofs.Ytbjilpmnhghfhaa.Plain Go.Proofs.Ytbjilpmnhghfhaa.PureStage Go.Proofs.Ytbjilpmnhghfhaa.PureChoices Go.Proofs.YtbjilpmnhghfhaaW.PrintWords Go.Proofs.YtbjilpmnhghfhaaW.PrintLast Go.Proofs.YtbjilpmnhghfhaaW.PrintMore
set_option linter.unusedVariables false

/-- The stages at some places. -/
def pk (kit : List St) (q : List Int) : List St := q.map fun x => rd_T37 kit x
theorem rd_ok {kit : List St} (h : ∀ x ∈ kit, OK x = true) {x : Int} (h0 : 0 ≤ x) (h1 : x < (kit.length : Int)) : OK (rd_T37 kit x) = true := by
  obtain ⟨n, rfl⟩ := Int.eq_ofNat_of_zero_le h0
  have hn : n < kit.length := by omega
  rw [rdS hn]
  exact h _ (List.getElem_mem hn)
theorem pk_V {kit : List St} (h : ∀ x ∈ kit, OK x = true) {q : List Int} (v : Val kit.length q) (hq : q.length ≤ 5) : ChainV (pk kit q) := by
  refine ⟨by unfold pk; rw [List.length_map]; exact hq, fun x hx => ?_⟩
  obtain ⟨y, hy, rfl⟩ := List.mem_map.1 hx
  exact rd_ok h (v y hy).1 (v y hy).2
/-- Does a choice of stages do? -/
def good (g : Int) (kit : List St) (q : List Int) : Bool := decide ((cg (pk kit q)).1 ≥ wrap64 (g * (cg (pk kit q)).2))
theorem picked_l0 (kit : List St) (q : List Int) (v : Val kit.length q) (hq : q.length ≤ 1000) : ∀ i, i ≤ q.length → Ev (fun k => spec_l7Picked.l0 k kit q (pk kit (q.take i)) (i : Int)) (pk kit q) := by
  refine downTo q.length ?_ ?_
  · refine Ev.step (fun k => by simp only [spec_l7Picked.l0]; exact rfl) (ifn (by omega) (done ?_))
    rw [List.take_length]
  · intro i hi ih
    obtain ⟨h0, h1⟩ := v q[i] (List.getElem_mem hi)
    have hl : (pk kit (q.take i)).length = i := by unfold pk; rw [List.length_map, List.length_take]; omega
    refine Ev.step (fun k => by simp only [spec_l7Picked.l0]; exact rfl) (ifp (by omega) (ifp (by omega) ?_))
    rw [rd_lt hi]
    refine ifp h0 (ifp h1 (ifp (by omega) ?_))
    rw [wrapS hi (by omega)]
    rw [take_succ hi] at ih
    unfold pk at ih ⊢
    rw [List.map_append] at ih
    exact ih
theorem picked_ev (kit : List St) (q : List Int) (v : Val kit.length q) (hq : q.length ≤ 1000) : Ev (fun k => spec_l7Picked.f k kit q) (pk kit q) := picked_l0 kit q v hq 0 (Nat.zero_le _)

def ans : Option (List Int) → List Int × Bool
  | some q => (q, true)
  | none => ([], false)
/-- All choices of so many places and more. -/
def C (n t m : Nat) : List (List Int) := (List.range' m (t + 1 - m)).flatMap (SS n)
theorem C_nil (n t : Nat) : C n t (t + 1) = [] := by unfold C; rw [Nat.sub_self]; rfl
theorem C_cons {n t m : Nat} (h : m < t + 1) : C n t m = SS n m ++ C n t (m + 1) := by
  unfold C
  rw [show t + 1 - m = (t + 1 - (m + 1)) + 1 from by omega, List.range'_succ, List.flatMap_cons]
def top (n : Nat) : Nat := if n < 5 then n else 5
theorem find_l1 (g : Int) (kit : List St) (hn : kit.length ≤ 8) (hk : ∀ x ∈ kit, OK x = true) (m : Nat) (hm : m ≤ 5) (o : Option (List Int)) (ho : Ev (fun k => spec_l7Find.l0 k kit g false ((m + 1 : Nat) : Int)) (ans o)) :
    ∀ j, j ≤ (SS kit.length m).length → Ev (fun k => spec_l7Find.l1 k kit g false (m : Int) (SS kit.length m) (j : Int)) (ans ((((SS kit.length m).drop j).find? (good g kit)).or o)) := by
  have hl := SS_small hn hm
  refine downTo (SS kit.length m).length ?_ ?_
  · refine Ev.step (fun k => by simp only [spec_l7Find.l1]; exact rfl) (ifn (by omega) ?_)
    rw [w64 (by omega) (by omega), List.drop_length, show (m : Int) + 1 = ((m + 1 : Nat) : Int) from by omega]
    exact ho
  · intro j hj ih
    obtain ⟨hq, hv⟩ := SS_mem kit.length m _ (List.getElem_mem hj)
    have hc := pk_V hk hv (by omega)
    have hw := wrapS hj (by omega)
    refine Ev.step (fun k => by simp only [spec_l7Find.l1]; exact rfl) (ifp (by omega) (ifp (by omega) ?_))
    rw [rdL3_lt hj, hw]
    refine Ev.bind (picked_ev kit _ hv (by omega)) (Ev.bind (l7Chain_ev hc) ?_)
    rw [drop_cons hj]
    have yes : good g kit (SS kit.length m)[j] = true → ans ((((SS kit.length m)[j] :: (SS kit.length m).drop (j + 1)).find? (good g kit)).or o) = ((SS kit.length m)[j], true) := by
      intro h; rw [List.find?_cons_of_pos h]; rfl
    have nope : ¬ good g kit (SS kit.length m)[j] = true → ans ((((SS kit.length m)[j] :: (SS kit.length m).drop (j + 1)).find? (good g kit)).or o) = ans ((((SS kit.length m).drop (j + 1)).find? (good g kit)).or o) := by
      intro h; rw [List.find?_cons_of_neg h]
    by_cases e : (cg (pk kit (SS kit.length m)[j])).1 = wrap64 (g * (cg (pk kit (SS kit.length m)[j])).2)
    · rw [yes (by unfold good; simp [e])]
      exact ifp e (done rfl)
    · refine ifn e (ifn Bool.false_ne_true (ifc (fun h => ?_) (fun h => ?_)))
      · rw [yes (by unfold good; exact decide_eq_true (by omega))]; exact done rfl
      · rw [nope (by unfold good; rw [decide_eq_false (by omega)]; exact Bool.false_ne_true)]; exact ih
theorem find_l0 (g : Int) (kit : List St) (hn : kit.length ≤ 8) (hk : ∀ x ∈ kit, OK x = true) : ∀ m, m ≤ top kit.length + 1 → Ev (fun k => spec_l7Find.l0 k kit g false (m : Int)) (ans ((C kit.length (top kit.length) m).find? (good g kit))) := by
  have ht : top kit.length ≤ 5 ∧ top kit.length ≤ kit.length ∧ (kit.length = top kit.length ∨ top kit.length = 5) := by unfold top; split <;> omega
  refine downTo (top kit.length + 1) ?_ ?_
  · rw [C_nil]
    have no : Ev (fun k => spec_l7Find.j1 k kit g false ((top kit.length + 1 : Nat) : Int) false) (ans ([].find? (good g kit))) := Ev.step (fun k => by simp only [spec_l7Find.j1]; exact rfl) (ifn Bool.false_ne_true (done rfl))
    refine Ev.step (fun k => by simp only [spec_l7Find.l0]; exact rfl) (ifc (fun h => ?_) (fun h => no))
    rw [decide_eq_false (by omega)]; exact no
  · intro m hm ih
    rw [C_cons hm, List.find?_append]
    have key := find_l1 g kit hn hk m (by omega) _ ih 0 (Nat.zero_le _)
    rw [List.drop_zero] at key
    refine Ev.step (fun k => by simp only [spec_l7Find.l0]; exact rfl) (ifp (by omega) ?_)
    rw [decide_eq_true (show (m : Int) ≤ 5 by omega)]
    refine Ev.step (fun k => by simp only [spec_l7Find.j1]; exact rfl) (ifp (Eq.refl true) (Ev.bind (l7Sets_ev kit.length m hn (by omega)) ?_))
    exact key

/-! ### the program -/
def Tells (r : List Int × Bool) : Option (List Int) → Prop
  | some q => r = (q, true)
  | none => r.2 = false
theorem chosen_l0 (g : Int) (kit : List St) (hk : ∀ x ∈ kit, OK x = true) (p : List Int) (v : Val kit.length p) (hp : p.length ≤ 5) : ∀ i, i ≤ p.length → Ev (fun k => impl_chosen_ReachGain_1.l0 g k kit p (pk kit (p.take i)) p (p.length : Int) (i : Int)) (p, good g kit p) := by
  refine downTo p.length ?_ ?_
  · refine Ev.step (fun k => by simp only [impl_chosen_ReachGain_1.l0]; exact rfl) (ifn (by omega) ?_)
    rw [List.take_length]
    exact Ev.bind (chainGain_ev (pk_V hk v hp)) (somb rfl (done rfl))
  · intro i hi ih
    obtain ⟨h0, h1⟩ := v p[i] (List.getElem_mem hi)
    have hl : (pk kit (p.take i)).length = i := by unfold pk; rw [List.length_map, List.length_take]; omega
    refine Ev.step (fun k => by simp only [impl_chosen_ReachGain_1.l0]; exact rfl) (ifp (by omega) (ifp (by omega) (ifp (by omega) ?_)))
    rw [rd_lt hi]
    refine ifp h0 (ifp h1 (ifp (by omega) ?_))
    rw [wrapS hi (by omega)]
    rw [take_succ hi] at ih
    unfold pk at ih ⊢
    rw [List.map_append] at ih
    exact ih
theorem chosen_ev (g : Int) (kit : List St) (hn : kit.length ≤ 8) (hk : ∀ x ∈ kit, OK x = true) : ∀ m : Nat, ∀ p : List Int, Val kit.length p → p.length + m ≤ 5 → ∃ r, Ev (fun k => impl_chosen_ReachGain_1.f g k kit p (m : Int)) r ∧ Tells r ((E kit.length m p).find? (good g kit)) := by
  intro m
  induction m with
  | zero =>
    intro p v hp
    refine ⟨(p, good g kit p), Ev.step (fun k => by simp only [impl_chosen_ReachGain_1.f]; exact rfl) (ifp (by omega) (chosen_l0 g kit hk p v (by omega) 0 (Nat.zero_le _))), ?_⟩
    show Tells _ ([p].find? (good g kit))
    cases h : good g kit p with
    | true => rw [List.find?_cons_of_pos h]; rfl
    | false => rw [List.find?_cons_of_neg (by rw [h]; exact Bool.false_ne_true)]; rfl
  | succ m ih =>
    intro p v hp
    have loop : ∀ i, i ≤ kit.length → ∃ r, Ev (fun k => impl_chosen_ReachGain_1.l1 g k kit p ((m + 1 : Nat) : Int) (i : Int)) r ∧ Tells r (((R kit.length i).flatMap fun i : Nat => E kit.length m (p ++ [(i : Int)])).find? (good g kit)) := by
      refine downTo kit.length ?_ ?_
      · refine ⟨([], false), Ev.step (fun k => by simp only [impl_chosen_ReachGain_1.l1]; exact rfl) (ifn (by omega) (done rfl)), ?_⟩
        rw [R_nil]; rfl
      · rintro i hi ⟨r, e, t⟩
        obtain ⟨r1, e1, t1⟩ := ih (p ++ [(i : Int)]) (val_snoc v hi) (by rw [List.length_append, List.length_singleton]; omega)
        have hm : wrap64 (((m + 1 : Nat) : Int) - 1) = (m : Int) := by rw [w64 (by omega) (by omega)]; omega
        rw [R_cons hi, List.flatMap_cons, List.find?_append]
        have start : ∀ r2, Ev (fun k => if r1.2 = true then some (r1.1, true) else impl_chosen_ReachGain_1.l1 g k kit p ((m + 1 : Nat) : Int) (wrap64 ((i : Int) + 1))) r2 → Ev (fun k => impl_chosen_ReachGain_1.l1 g k kit p ((m + 1 : Nat) : Int) (i : Int)) r2 := by
          intro r2 h2
          refine Ev.step (fun k => by simp only [impl_chosen_ReachGain_1.l1]; exact rfl) (ifp (by omega) (somb rfl (ifp (by simp only [List.length_nil]; omega) (somb rfl (ifp (by simp only [List.nil_append]; omega) ?_)))))
          rw [hm, List.nil_append]
          exact Ev.bind e1 h2
        cases ho : (E kit.length m (p ++ [(i : Int)])).find? (good g kit) with
        | some q =>
          rw [ho] at t1
          have t2 : r1 = (q, true) := t1
          subst t2
          exact ⟨(q, true), start _ (ifp (Eq.refl true) (done rfl)), rfl⟩
        | none =>
          rw [ho] at t1
          have t2 : r1.2 = false := t1
          refine ⟨r, start _ (ifn (by rw [t2]; exact Bool.false_ne_true) ?_), t⟩
          rw [wrapS hi (by omega)]; exact e
    obtain ⟨r, e, t⟩ := loop (nx p) (nx_le v)
    have e' : Ev (fun k => impl_chosen_ReachGain_1.j1 g k kit p ((m + 1 : Nat) : Int) ((nx p : Nat) : Int)) r := Ev.step (fun k => by rw [impl_chosen_ReachGain_1.j1]) e
    refine ⟨r, Ev.step (fun k => by simp only [impl_chosen_ReachGain_1.f]; exact rfl) (ifn (by omega) ?_), t⟩
    by_cases hz : p.length = 0
    · have e0 : nx p = 0 := by unfold nx; rw [if_pos hz]
      rw [e0] at e'
      exact ifn (by omega) e'
    · have lv := last_val v (by omega)
      have hw : wrap64 ((p.length : Int) - 1) = ((p.length - 1 : Nat) : Int) := by rw [w64 (by omega) (by omega)]; omega
      have e0 : ((nx p : Nat) : Int) = rd p ((p.length - 1 : Nat) : Int) + 1 := by unfold nx; rw [if_neg hz]; omega
      rw [e0] at e'
      rw [hw]
      refine ifp (by omega) (ifp (by omega) (ifp (by omega) ?_))
      rw [w64 (by omega) (by omega)]
      exact e'
theorem fewest_l1 (g : Int) (kit : List St) (hn : kit.length ≤ 8) (hk : ∀ x ∈ kit, OK x = true) : ∀ m, m ≤ top kit.length + 1 → Ev (fun k => impl_fewest_ReachGain_1.l1 g k kit (m : Int)) (ans ((C kit.length (top kit.length) m).find? (good g kit))) := by
  have ht : top kit.length ≤ 5 ∧ mn 5 (kit.length : Int) = (top kit.length : Int) := by unfold top mn; repeat' split <;> omega
  refine downTo (top kit.length + 1) ?_ ?_
  · rw [C_nil]
    refine Ev.step (fun k => by simp only [impl_fewest_ReachGain_1.l1]; exact rfl) ?_
    rw [ht.2]
    exact ifn (by omega) (done rfl)
  · intro m hm ih
    rw [C_cons hm, List.find?_append, ← E_SS]
    obtain ⟨r, e, t⟩ := chosen_ev g kit hn hk m [] (fun x hx => by cases hx) (by simp only [List.length_nil]; omega)
    refine Ev.step (fun k => by simp only [impl_fewest_ReachGain_1.l1]; exact rfl) ?_
    rw [ht.2]
    refine ifp (by omega) (Ev.bind e ?_)
    cases ho : (E kit.length m []).find? (good g kit) with
    | some q =>
      rw [ho] at t
      have t2 : r = (q, true) := t
      subst t2
      exact ifp (Eq.refl true) (done rfl)
    | none =>
      rw [ho] at t
      have t2 : r.2 = false := t
      refine ifn (by rw [t2]; exact Bool.false_ne_true) ?_
      rw [w64 (by omega) (by omega), show (m : Int) + 1 = ((m + 1 : Nat) : Int) from by omega]
      exact ih
theorem fewest_l0 (g : Int) (kit : List St) (hn : kit.length ≤ 8) (hk : ∀ x ∈ kit, OK x = true) : ∀ i, i ≤ kit.length → Ev (fun k => impl_fewest_ReachGain_1.l0 g k kit kit (kit.length : Int) (i : Int)) (ans ((C kit.length (top kit.length) 0).find? (good g kit))) := by
  refine downTo kit.length ?_ ?_
  · exact Ev.step (fun k => by simp only [impl_fewest_ReachGain_1.l0]; exact rfl) (ifn (by omega) (fewest_l1 g kit hn hk 0 (by omega)))
  · intro i hi ih
    refine Ev.step (fun k => by simp only [impl_fewest_ReachGain_1.l0]; exact rfl) (ifp (by omega) (ifp (by omega) (ifp (by omega) ?_)))
    rw [rdS hi]
    refine Ev.bind (IsStage_ev _ _ _) (ifp (hk _ (List.getElem_mem hi)) ?_)
    rw [wrapS hi (by omega)]; exact ih
theorem fewest_bad (g : Int) (kit : List St) (hn : kit.length ≤ 8) : ∀ i, i ≤ kit.length → (kit.drop i).all OK = false → Ev (fun k => impl_fewest_ReachGain_1.l0 g k kit kit (kit.length : Int) (i : Int)) ([], false) := by
  refine downTo kit.length ?_ ?_
  · intro h; rw [List.drop_length] at h; cases h
  · intro i hi ih h
    rw [drop_cons hi, List.all_cons] at h
    refine Ev.step (fun k => by simp only [impl_fewest_ReachGain_1.l0]; exact rfl) (ifp (by omega) (ifp (by omega) (ifp (by omega) ?_)))
    rw [rdS hi]
    refine Ev.bind (IsStage_ev _ _ _) ?_
    show Ev (fun k => if OK kit[i] = true then _ else _) _
    cases hx : OK kit[i] with
    | true => rw [hx, Bool.true_and] at h; refine ifp rfl ?_; rw [wrapS hi (by omega)]; exact ih h
    | false => exact ifn Bool.false_ne_true (done rfl)

/-- Are a list and a gain valid? -/
def KitOK (kit : List St) (g : Int) : Bool := (kit.all OK && decide (kit.length ≤ 8)) && decide (1 ≤ g ∧ g ≤ 1000000)
/-- The fewest stages, of several the first ones. -/
def few (g : Int) (kit : List St) : List Int × Bool := if KitOK kit g = true then ans ((C kit.length (top kit.length) 0).find? (good g kit)) else ([], false)
theorem spec_ev (kit : List St) (hl : kit.length ≤ 140737488355328) (g : Int) : Ev (fun k => spec_ReachGain.f k kit g) (few g kit) := by
  have h1 := l7Stages_ev kit 8 hl
  have e8 : ChainOK kit 8 = (kit.all OK && decide (kit.length ≤ 8)) := by unfold ChainOK; congr 1; simp only [decide_eq_decide]; omega
  rw [e8] at h1
  unfold spec_ReachGain.f spec_l7Kit.f few KitOK
  rw [l1In_eq]
  cases hr : (kit.all OK && decide (kit.length ≤ 8)) with
  | false =>
    rw [hr] at h1
    rw [Bool.false_and, if_neg Bool.false_ne_true]
    exact Ev.bind (Ev.bind h1 (ifn Bool.false_ne_true (done rfl))) (ifn Bool.false_ne_true (done rfl))
  | true =>
    rw [hr] at h1
    have hk : (∀ x ∈ kit, OK x = true) ∧ kit.length ≤ 8 := by
      simp only [Bool.and_eq_true, decide_eq_true_eq, List.all_eq_true] at hr; exact hr
    rw [Bool.true_and]
    cases hg : decide (1 ≤ g ∧ g ≤ 1000000) with
    | false => rw [if_neg Bool.false_ne_true]; exact Ev.bind (Ev.bind h1 (ifp (Eq.refl true) (somb rfl (done rfl)))) (ifn Bool.false_ne_true (done rfl))
    | true => rw [if_pos rfl]; exact Ev.bind (Ev.bind h1 (ifp (Eq.refl true) (somb rfl (done rfl)))) (ifp (Eq.refl true) (Ev.bind (find_l0 g kit hk.2 hk.1 0 (by omega)) (done rfl)))
theorem impl_ev (kit : List St) (hl : kit.length ≤ 140737488355328) (g : Int) : Ev (fun k => impl_ReachGain.f k kit g) (few g kit) := by
  unfold impl_ReachGain.f impl_fewest_ReachGain_1.f few KitOK
  rw [within_eq]
  have no : Ev (fun k => impl_fewest_ReachGain_1.j0 g k kit true) ([], false) := Ev.step (fun k => by simp only [impl_fewest_ReachGain_1.j0]; exact rfl) (ifp (Eq.refl true) (done rfl))
  by_cases h8 : kit.length ≤ 8
  · refine ifn (by omega) (somb rfl ?_)
    cases hg : decide (1 ≤ g ∧ g ≤ 1000000) with
    | false => rw [Bool.and_false, if_neg Bool.false_ne_true]; exact no
    | true =>
      rw [decide_eq_true h8, Bool.and_true, Bool.and_true]
      refine Ev.step (fun k => by simp only [impl_fewest_ReachGain_1.j0]; exact rfl) (ifn (by decide) ?_)
      cases ha : kit.all OK with
      | false => rw [if_neg Bool.false_ne_true]; exact fewest_bad g kit h8 0 (Nat.zero_le _) ha
      | true => rw [if_pos rfl]; exact fewest_l0 g kit h8 (by simpa using ha) 0 (Nat.zero_le _)
  · rw [decide_eq_false h8, Bool.and_false, Bool.false_and, if_neg Bool.false_ne_true]
    exact ifp (by omega) no
theorem C_mem (n t : Nat) : ∀ m, m ≤ t + 1 → ∀ q ∈ C n t m, q.length ≤ t ∧ Val n q := by
  refine downTo (t + 1) ?_ ?_
  · intro q hq; rw [C_nil] at hq; cases hq
  · intro m hm ih q hq
    rw [C_cons hm, List.mem_append] at hq
    rcases hq with hq | hq
    · obtain ⟨h1, h2⟩ := SS_mem n m q hq
      exact ⟨by omega, h2⟩
    · exact ih q hq
theorem few_len (g : Int) (kit : List St) : (few g kit).1.length ≤ 5 := by
  unfold few
  split
  · cases h : (C kit.length (top kit.length) 0).find? (good g kit) with
    | none => simp [ans]
    | some q =>
      have := (C_mem kit.length (top kit.length) 0 (by omega) q (List.mem_of_find?_eq_some h)).1
      have ht : top kit.length ≤ 5 := by unfold top; split <;> omega
      show q.length ≤ 5
      omega
  · simp
end Go.Proofs.Ytbjilpmnhghfhaa.PureGainReach
namespace Go.Proofs.Ytbjilpmnhghfhaa.PureFew
open Go.RowKit Go.Proofs.Ytbjilpmnhghfhaa.XSt Go.Proofs.Ytbjilpmnhghfhaa.Plain Go.Proofs.Ytbjilpmnhghfhaa.PureStage Go.Proofs.Ytbjilpmnhghfhaa.PureLowest Go.Proofs.Ytbjilpmnhghfhaa.PureChoices Go.Proofs.YtbjilpmnhghfhaaW.PrintWords Go.Proofs.YtbjilpmnhghfhaaW.PrintLast Go.Proofs.YtbjilpmnhghfhaaW.PrintMore
set_option linter.unusedVariables false
theorem find_first {p : List Int → Bool} : ∀ (L : List (List Int)), L.Pairwise (fun a b => a.length ≤ b.length) → ∀ x, L.find? p = some x → ∀ y ∈ L, p y = true → x.length ≤ y.length := by
  intro L
  induction L with
  | nil => intro _ x h; cases h
  | cons a L ih =>
    intro hp x hx y hy hpy
    rw [List.pairwise_cons] at hp
    by_cases ha : p a = true
    · rw [List.find?_cons_of_pos ha] at hx
      obtain rfl := Option.some.inj hx
      rcases List.mem_cons.1 hy with rfl | hy
      · exact Nat.le_refl _
      · exact hp.1 y hy
    · rw [List.find?_cons_of_neg ha] at hx
      rcases List.mem_cons.1 hy with rfl | hy
      · exact absurd hpy ha
      · exact ih hp.2 x hx y hy hpy
theorem C_pw (n t : Nat) : ∀ m, m ≤ t + 1 → (PureGainReach.C n t m).Pairwise (fun a b => a.length ≤ b.length) ∧ ∀ q ∈ PureGainReach.C n t m, m ≤ q.length := by
  refine downTo (t + 1) ?_ ?_
  · rw [PureGainReach.C_nil]
    exact ⟨List.Pairwise.nil, fun q hq => by cases hq⟩
  · rintro m hm ⟨h1, h2⟩
    rw [PureGainReach.C_cons hm]
    refine ⟨List.pairwise_append.2 ⟨?_, h1, fun a ha b hb => ?_⟩, fun q hq => ?_⟩
    · refine List.pairwise_of_forall_mem_list fun a ha b hb => ?_
      rw [(SS_mem n m a ha).1, (SS_mem n m b hb).1]
      exact Nat.le_refl _
    · have := h2 b hb
      rw [(SS_mem n m a ha).1]
      omega
    · rcases List.mem_append.1 hq with hq | hq
      · rw [(SS_mem n m q hq).1]; exact Nat.le_refl _
      · have := h2 q hq; omega
theorem nil_mem (n t : Nat) : [] ∈ PureGainReach.C n t 0 := by
  unfold PureGainReach.C
  rw [List.mem_flatMap]
  exact ⟨0, by rw [List.mem_range'_1]; omega, by simp [SS]⟩
theorem one_mem {n t i : Nat} (ht : 1 ≤ t) (hi : i < n) : [(i : Int)] ∈ PureGainReach.C n t 0 := by
  unfold PureGainReach.C
  rw [List.mem_flatMap]
  refine ⟨1, by rw [List.mem_range'_1]; omega, ?_⟩
  show [(i : Int)] ∈ (SS n 0).flatMap (ext n)
  rw [show SS n 0 = [[]] from rfl, List.flatMap_cons, List.flatMap_nil, List.append_nil]
  unfold ext
  refine List.mem_map.2 ⟨i, ?_, rfl⟩
  unfold R nx
  rw [List.mem_range'_1]
  simp only [List.length_nil, if_pos]
  omega
structure Kit (kit : List St) (g : Int) : Prop where
  n : kit.length ≤ 8
  each : ∀ x ∈ kit, OK x = true
  g0 : 1 ≤ g
  g1 : g ≤ 1000000
theorem kit_of {kit : List St} {g : Int} (h : PureGainReach.KitOK kit g = true) : Kit kit g := by
  unfold PureGainReach.KitOK at h
  simp only [Bool.and_eq_true, decide_eq_true_eq, List.all_eq_true] at h
  exact ⟨h.1.2, h.1.1, h.2.1, h.2.2⟩
theorem prod_small {kit : List St} {g : Int} (k : Kit kit g) {l : List St} (v : ChainV l) : wrap64 (g * (cg l).2) = g * (cg l).2 := by
  obtain ⟨_, h1, h2⟩ := cg_range v
  have m := mul_le k.g0 k.g1 h1 h2
  exact w64 (by omega) (by omega)
structure ReachSay (kit : List St) (g : Int) (q : List Int) : Prop where
  k : Kit kit g
  len : q.length ≤ 5
  val : Val kit.length q
  gain : (cg (PureGainReach.pk kit q)).1 ≥ g * (cg (PureGainReach.pk kit q)).2
  least : ∀ y ∈ PureGainReach.C kit.length (PureGainReach.top kit.length) 0, Val kit.length y → y.length ≤ 5 → (cg (PureGainReach.pk kit y)).1 ≥ g * (cg (PureGainReach.pk kit y)).2 → q.length ≤ y.length
theorem top_le (n : Nat) : PureGainReach.top n ≤ 5 := by unfold PureGainReach.top; split <;> omega
theorem reach_say {kit : List St} {g : Int} {r : List Int × Bool} (e : PureGainReach.few g kit = r) (h : r.2 = true) : ReachSay kit g r.1 := by
  unfold PureGainReach.few at e
  by_cases hk : PureGainReach.KitOK kit g = true
  · rw [if_pos hk] at e
    have k := kit_of hk
    cases hf : (PureGainReach.C kit.length (PureGainReach.top kit.length) 0).find? (PureGainReach.good g kit) with
    | none => rw [hf] at e; rw [← e] at h; cases h
    | some q =>
      rw [hf] at e
      rw [← e]
      have hm := PureGainReach.C_mem kit.length (PureGainReach.top kit.length) 0 (by omega) q (List.mem_of_find?_eq_some hf)
      have ht := top_le kit.length
      have hg := List.find?_some hf
      refine ⟨k, by show q.length ≤ 5; omega, hm.2, ?_, ?_⟩
      · unfold PureGainReach.good at hg
        rw [prod_small k (PureGainReach.pk_V k.each hm.2 (by omega))] at hg
        exact of_decide_eq_true hg
      · intro y hy vy ly gy
        refine find_first _ (C_pw _ _ 0 (by omega)).1 q hf y hy ?_
        unfold PureGainReach.good
        rw [prod_small k (PureGainReach.pk_V k.each vy ly)]
        exact decide_eq_true gy
  · rw [if_neg hk] at e; rw [← e] at h; cases h
structure ExactSay (kit : List St) (g : Int) (q : List Int) : Prop where
  k : Kit kit g
  mem : q ∈ PureGainReach.C kit.length (PureGainReach.top kit.length) 0
  len : q.length ≤ 5
  val : Val kit.length q
  gain : (cg (PureGainReach.pk kit q)).1 = g * (cg (PureGainReach.pk kit q)).2
theorem exact_say {kit : List St} {g : Int} {r : List Int × Bool} (e : PureGainExact.few g kit = r) (h : r.2 = true) : ExactSay kit g r.1 := by
  unfold PureGainExact.few at e
  by_cases hk : PureGainExact.KitOK kit g = true
  · rw [if_pos hk] at e
    have k := kit_of (kit := kit) (g := g) hk
    cases hf : (PureGainExact.C kit.length (PureGainExact.top kit.length) 0).find? (PureGainExact.good g kit) with
    | none => rw [hf] at e; rw [← e] at h; cases h
    | some q =>
      rw [hf] at e
      rw [← e]
      have hq := List.mem_of_find?_eq_some hf
      have hm := PureGainExact.C_mem kit.length (PureGainExact.top kit.length) 0 (by omega) q hq
      have ht : PureGainExact.top kit.length ≤ 5 := top_le kit.length
      have hg := List.find?_some hf
      refine ⟨k, hq, by show q.length ≤ 5; omega, hm.2, ?_⟩
      unfold PureGainExact.good at hg
      rw [prod_small k (PureGainExact.pk_V k.each hm.2 (by omega))] at hg
      exact eq_of_beq hg
  · rw [if_neg hk] at e; rw [← e] at h; cases h
/-- Where a choice is exact, one that reaches the gain is found, and it is no longer. -/
theorem both_say {kit : List St} {g : Int} {q : List Int} (e : ExactSay kit g q) : (PureGainReach.few g kit).2 = true ∧ (PureGainReach.few g kit).1.length ≤ q.length := by
  have hk : PureGainReach.KitOK kit g = true := by
    unfold PureGainReach.KitOK
    simp only [Bool.and_eq_true, decide_eq_true_eq, List.all_eq_true]
    exact ⟨⟨e.k.each, e.k.n⟩, e.k.g0, e.k.g1⟩
  have hg : PureGainReach.good g kit q = true := by
    unfold PureGainReach.good
    rw [prod_small e.k (PureGainReach.pk_V e.k.each e.val e.len)]
    exact decide_eq_true (Int.le_of_eq e.gain.symm)
  have h2 : (PureGainReach.few g kit).2 = true := by
    unfold PureGainReach.few
    rw [if_pos hk]
    cases hf : (PureGainReach.C kit.length (PureGainReach.top kit.length) 0).find? (PureGainReach.good g kit) with
    | none => exact absurd hg (by simpa using List.find?_eq_none.1 hf q e.mem)
    | some y => rfl
  exact ⟨h2, (reach_say rfl h2).least q e.mem e.val e.len (Int.le_of_eq e.gain.symm)⟩
theorem exact_gain {kit : List St} {g : Int} {q : List Int} (e : ExactSay kit g q) : cg (PureGainReach.pk kit q) = (g, 1) := by
  have hl := cg_low (PureGainReach.pk_V e.k.each e.val e.len).each (1, 1) low_one
  obtain ⟨h1, h2⟩ := low_whole (p := (cg (PureGainReach.pk kit q)).1) (q := (cg (PureGainReach.pk kit q)).2) hl e.gain
  exact Prod.ext h1 h2
theorem ge_cut {a b n : Int} (ha : 1 ≤ a) (hb : 1 ≤ b) (h : a ≥ n * b) : (cut a b).1 ≥ n * (cut a b).2 := by
  obtain ⟨d, d1, d2, d3⟩ := cut_mul (show 0 ≤ a by omega) hb
  have e : n * b = d * (n * (cut a b).2) := by
    have : n * b = n * (d * (cut a b).2) := congrArg (n * ·) d3
    rw [this, ← Int.mul_assoc, ← Int.mul_assoc, Int.mul_comm n d]
  have h2 : d * (n * (cut a b).2) ≤ d * (cut a b).1 := by rw [← e, ← d2]; exact h
  exact Int.le_of_mul_le_mul_left h2 (by omega)
/-- No single stage does where more than one is needed. -/
theorem single {kit : List St} {g : Int} {q : List Int} (e : ReachSay kit g q) (hq : 1 < q.length) {i : Nat} (hi : i < kit.length) : ¬ (sg kit[i]).1 ≥ g * (sg kit[i]).2 := by
  intro h
  obtain ⟨⟨s1, _⟩, s3, _⟩ := sg_range (e.k.each kit[i] (List.getElem_mem hi))
  have hv : Val kit.length [(i : Int)] := by intro x hx; rw [List.mem_singleton] at hx; omega
  have ht : 1 ≤ PureGainReach.top kit.length := by unfold PureGainReach.top; split <;> omega
  have hc : cg (PureGainReach.pk kit [(i : Int)]) = cut (1 * (sg kit[i]).1) (1 * (sg kit[i]).2) := by
    unfold PureGainReach.pk cg
    rw [List.map_cons, List.map_nil, List.foldl_cons, List.foldl_nil, rdS hi]
    rfl
  have := e.least [(i : Int)] (one_mem ht hi) hv (by simp) (by rw [hc, Int.one_mul, Int.one_mul]; exact ge_cut s1 s3 h)
  simp at this
  omega
theorem unit {kit : List St} {g : Int} {q : List Int} (e : ReachSay kit g q) (hg : ¬ g > 1) : q.length = 0 := by
  have h1 : g = 1 := by have := e.k.g0; omega
  have := e.least [] (nil_mem _ _) (fun x hx => by cases hx) (by simp) (by
    have : cg (PureGainReach.pk kit []) = (1, 1) := rfl
    rw [this, h1]; decide)
  simpa using this
end Go.Proofs.Ytbjilpmnhghfhaa.PureFew
