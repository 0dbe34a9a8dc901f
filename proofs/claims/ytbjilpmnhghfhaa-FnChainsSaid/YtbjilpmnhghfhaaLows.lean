/- Fractions in their lowest terms are the same if they stand for the same number. No conditions beyond those of the lemmas' own hypotheses. -/
import Derived.Test.YtbjilpmnhghfhaaStage
namespace Go.Proofs.Ytbjilpmnhghfhaa.PureLows
open Go.RowKit Go.Proofs.Ytbjilpmnhghfhaa.XCh Go.Proofs.Ytbjilpmnhghfhaa.Plain Go.Proofs.Ytbjilpmnhghfhaa.PureStage Go.Proofs.YtbjilpmnhghfhaaW.PrintWords Go.Proofs.YtbjilpmnhghfhaaW.PrintLast Go.Proofs.YtbjilpmnhghfhaaW.PrintMore
set_option linter.unusedVariables false
set_option linter.unusedSimpArgs false
theorem nat_lowest {a b c d : Nat} (hb : 0 < b) (hd : 0 < d) (h : a * d = c * b) : a / Nat.gcd a b = c / Nat.gcd c d ∧ b / Nat.gcd a b = d / Nat.gcd c d := by
  have g0 : 0 < Nat.gcd a b := Nat.gcd_pos_of_pos_right _ hb
  have g1 : 0 < Nat.gcd c d := Nat.gcd_pos_of_pos_right _ hd
  obtain ⟨p, hp⟩ := Nat.gcd_dvd_left a b
  obtain ⟨q, hq⟩ := Nat.gcd_dvd_right a b
  obtain ⟨u, hu⟩ := Nat.gcd_dvd_left c d
  obtain ⟨v, hv⟩ := Nat.gcd_dvd_right c d
  have cp : Nat.Coprime (a / Nat.gcd a b) (b / Nat.gcd a b) := Nat.coprime_div_gcd_div_gcd g0
  have cq : Nat.Coprime (c / Nat.gcd c d) (d / Nat.gcd c d) := Nat.coprime_div_gcd_div_gcd g1
  have ep : a / Nat.gcd a b = p := Nat.div_eq_of_eq_mul_right g0 hp
  have eq : b / Nat.gcd a b = q := Nat.div_eq_of_eq_mul_right g0 hq
  have eu : c / Nat.gcd c d = u := Nat.div_eq_of_eq_mul_right g1 hu
  have ev : d / Nat.gcd c d = v := Nat.div_eq_of_eq_mul_right g1 hv
  rw [ep, eq] at cp
  rw [eu, ev] at cq
  rw [ep, eq, eu, ev]
  generalize Nat.gcd a b = g at *
  generalize Nat.gcd c d = k at *
  subst hp hq hu hv
  have h2 : p * v = u * q := by
    have e1 : g * p * (k * v) = (g * k) * (p * v) := by simp only [Nat.mul_assoc, Nat.mul_left_comm, Nat.mul_comm]
    have e2 : k * u * (g * q) = (g * k) * (u * q) := by simp only [Nat.mul_assoc, Nat.mul_left_comm, Nat.mul_comm]
    rw [e1, e2] at h
    exact Nat.eq_of_mul_eq_mul_left (Nat.mul_pos g0 g1) h
  constructor
  · apply Nat.dvd_antisymm
    · exact cp.dvd_of_dvd_mul_right (by rw [← h2]; exact Nat.dvd_mul_right _ _)
    · exact cq.dvd_of_dvd_mul_right (by rw [h2]; exact Nat.dvd_mul_right _ _)
  · apply Nat.dvd_antisymm
    · exact cp.symm.dvd_of_dvd_mul_left (by rw [h2]; exact Nat.dvd_mul_left _ _)
    · exact cq.symm.dvd_of_dvd_mul_left (by rw [← h2]; exact Nat.dvd_mul_left _ _)
theorem cut_same {a b c d : Int} (ha : 0 ≤ a) (hb : 1 ≤ b) (hc : 0 ≤ c) (hd : 1 ≤ d) (h : a * d = c * b) : cut a b = cut c d := by
  obtain ⟨a, rfl⟩ := Int.eq_ofNat_of_zero_le ha
  obtain ⟨b, rfl⟩ := Int.eq_ofNat_of_zero_le (show 0 ≤ b by omega)
  obtain ⟨c, rfl⟩ := Int.eq_ofNat_of_zero_le hc
  obtain ⟨d, rfl⟩ := Int.eq_ofNat_of_zero_le (show 0 ≤ d by omega)
  have h' : a * d = c * b := by exact_mod_cast h
  obtain ⟨e1, e2⟩ := nat_lowest (by omega) (by omega) h'
  unfold cut PureStage.gd
  simp only [Int.toNat_natCast]
  rw [← Int.natCast_ediv, ← Int.natCast_ediv, ← Int.natCast_ediv, ← Int.natCast_ediv, e1, e2]
theorem cut_mul {a b : Int} (ha : 0 ≤ a) (hb : 1 ≤ b) : ∃ g : Int, 1 ≤ g ∧ a = g * (cut a b).1 ∧ b = g * (cut a b).2 := by
  refine ⟨gd a b, gd_pos hb, ?_, ?_⟩
  · exact (Int.mul_ediv_cancel' (gd_dvd_left b ha)).symm
  · exact (Int.mul_ediv_cancel' (gd_dvd_right a (by omega))).symm
theorem cut_one {a : Int} (ha : 0 ≤ a) : cut a 1 = (a, 1) := by
  unfold cut PureStage.gd
  simp
/-- The pull behind one more stage. -/
theorem step_same {p n d N D : Int} (hp : 0 ≤ p) (hn : 1 ≤ n) (hd : 1 ≤ d) (hN : 1 ≤ N) (hD : 1 ≤ D) : cut ((cut (p * D) N).1 * d) ((cut (p * D) N).2 * n) = cut (p * (cut (N * n) (D * d)).2) (cut (N * n) (D * d)).1 := by
  have pD : 0 ≤ p * D := Int.mul_nonneg hp (by omega)
  have Nn : 1 ≤ N * n := (mul_le hN (Int.le_refl _) hn (Int.le_refl _)).1
  have Dd : 1 ≤ D * d := (mul_le hD (Int.le_refl _) hd (Int.le_refl _)).1
  obtain ⟨h, h1, h2, h3⟩ := cut_mul pD hN
  obtain ⟨g, g1, g2, g3⟩ := cut_mul (show 0 ≤ N * n by omega) Dd
  have q1 := (cut_range Nn (Int.le_refl _) Dd (Int.le_refl _))
  generalize hA : (cut (p * D) N).1 = A at *
  generalize hB : (cut (p * D) N).2 = B at *
  generalize hU : (cut (N * n) (D * d)).1 = U at *
  generalize hV : (cut (N * n) (D * d)).2 = V at *
  have hA0 : 0 ≤ A := by
    rw [← hA]; exact Int.ediv_nonneg pD (by have := gd_pos (a := p * D) hN; omega)
  have hB1 : 1 ≤ B := by
    have : 0 < h * B := by omega
    rcases Int.lt_or_le 0 B with hh | hh
    · omega
    · have := Int.mul_le_mul_of_nonneg_left hh (show 0 ≤ h by omega)
      omega
  refine cut_same (Int.mul_nonneg hA0 (by omega)) ((mul_le hB1 (Int.le_refl _) hn (Int.le_refl _)).1) (Int.mul_nonneg hp (by omega)) q1.1.1 ?_
  have e : (g * h) * (A * d * U) = (g * h) * (p * V * (B * n)) := by
    have l1 : (g * h) * (A * d * U) = (h * A) * d * (g * U) := by simp only [Int.mul_assoc, Int.mul_left_comm, Int.mul_comm]
    have l2 : (g * h) * (p * V * (B * n)) = p * (g * V) * ((h * B) * n) := by simp only [Int.mul_assoc, Int.mul_left_comm, Int.mul_comm]
    rw [l1, l2, ← h2, ← g2, ← g3, ← h3]
    simp only [Int.mul_assoc, Int.mul_left_comm, Int.mul_comm]
  exact Int.eq_of_mul_eq_mul_left (by have := Int.mul_pos (show 0 < g by omega) (show 0 < h by omega); omega) e
theorem take_V {l : List St} (h : ChainV l) (i : Nat) : ChainV (l.take i) := ⟨by rw [List.length_take]; have := h.n; omega, fun x hx => h.each x (List.mem_of_mem_take hx)⟩
end Go.Proofs.Ytbjilpmnhghfhaa.PureLows
