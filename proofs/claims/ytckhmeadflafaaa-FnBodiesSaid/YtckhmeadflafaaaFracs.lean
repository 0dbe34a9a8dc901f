/- Fractions with the common divisor taken out, in the program and in the reference alike. No conditions beyond those of the lemmas' own hypotheses. -/
import Derived.Test.YtckhmeadflafaaaPlain
import Derived.Test.YtckhmeadflafaaaXFbx17
import Derived.Test.YtckhmeadflafaaaXFbx16
namespace Go.Proofs.Ytckhmeadflafaaa.PureFracs
open Go.RowKit Go.Proofs.Ytckhmeadflafaaa.XFb Go.Proofs.Ytckhmeadflafaaa.Plain Go.Proofs.YtckhmeadflafaaaW.PrintWords Go.Proofs.YtckhmeadflafaaaW.PrintLast Go.Proofs.YtckhmeadflafaaaW.PrintMore
set_option linter.unusedVariables false
/-! ### fractions -/
theorem gcd_l0 : ∀ k a b, spec_l2Gcd.l0 k a b = impl_divisor.l0 k a b := by
  intro k
  induction k with
  | zero => intro a b; rfl
  | succ k ih => intro a b; simp only [spec_l2Gcd.l0, impl_divisor.l0]; rw [ih]
theorem divisor_nat (b : Nat) : ∀ a : Nat, Ev (fun k => impl_divisor.f k (a : Int) (b : Int)) ((Nat.gcd a b : Nat) : Int) := by
  induction b using Nat.strongRecOn with
  | ind b ih =>
    intro a
    refine Ev.step (fun k => by simp only [impl_divisor.f, impl_divisor.l0]; exact rfl) ?_
    by_cases hb : b = 0
    · subst hb
      exact ifn (by decide) (done (by simp))
    · refine ifp (by omega) (ifn (by omega) ?_)
      rw [show Int.tmod (a : Int) (b : Int) = ((a % b : Nat) : Int) from by simp [Int.tmod]]
      have := ih (a % b) (Nat.mod_lt _ (by omega)) b
      rw [Nat.gcd_comm, ← Nat.gcd_rec] at this
      rw [Nat.gcd_comm]
      exact this
def gd (a b : Int) : Int := ((Nat.gcd a.toNat b.toNat : Nat) : Int)
def cut (a b : Int) : Int × Int := (a / gd a b, b / gd a b)
theorem gd_pos {a b : Int} (hb : 1 ≤ b) : 1 ≤ gd a b := by
  have : 0 < Nat.gcd a.toNat b.toNat := Nat.gcd_pos_of_pos_right _ (by omega)
  unfold gd; omega
theorem gd_dvd_left {a : Int} (b : Int) (ha : 0 ≤ a) : gd a b ∣ a := by
  have h : ((a.toNat : Nat) : Int) = a := Int.toNat_of_nonneg ha
  have := Int.natCast_dvd_natCast.2 (Nat.gcd_dvd_left a.toNat b.toNat)
  rwa [h] at this
theorem gd_dvd_right (a : Int) {b : Int} (hb : 0 ≤ b) : gd a b ∣ b := by
  have h : ((b.toNat : Nat) : Int) = b := Int.toNat_of_nonneg hb
  have := Int.natCast_dvd_natCast.2 (Nat.gcd_dvd_right a.toNat b.toNat)
  rwa [h] at this
theorem divisor_ev {a b : Int} (ha : 0 ≤ a) (hb : 0 ≤ b) : Ev (fun k => impl_divisor.f k a b) (gd a b) := by
  have := divisor_nat b.toNat a.toNat
  rw [Int.toNat_of_nonneg ha, Int.toNat_of_nonneg hb] at this
  exact this
theorem fraction_ev {a b : Int} (ha : 0 ≤ a) (ha1 : a ≤ 4611686018427387904) (hb : 1 ≤ b) (hb1 : b ≤ 4611686018427387904) : Ev (fun k => impl_fraction.f k a b) (cut a b) := by
  unfold impl_fraction.f
  have hm : mx a (wrap64 (-a)) = a := by rw [w64 (by omega) (by omega)]; unfold mx; split <;> omega
  rw [hm]
  have hg := gd_pos (a := a) hb
  refine Ev.bind (divisor_ev ha (by omega)) (ifn (by omega) (done ?_))
  have h1 : a / gd a b ≤ a := Int.ediv_le_self _ ha
  have h2 : b / gd a b ≤ b := Int.ediv_le_self _ (by omega)
  have h3 : 0 ≤ a / gd a b := Int.ediv_nonneg ha (by omega)
  have h4 : 0 ≤ b / gd a b := Int.ediv_nonneg (by omega) (by omega)
  rw [Int.tdiv_eq_ediv_of_nonneg ha, Int.tdiv_eq_ediv_of_nonneg (by omega : 0 ≤ b), w64 (by omega) (by omega), w64 (by omega) (by omega)]
  rfl
theorem l2Cut_ev {a b : Int} (ha : 0 ≤ a) (ha1 : a ≤ 4611686018427387904) (hb : 1 ≤ b) (hb1 : b ≤ 4611686018427387904) : Ev (fun k => spec_l2Cut.f k a b) (cut a b) := by
  have := fraction_ev ha ha1 hb hb1
  refine Ev.congr ?_ this
  intro k
  unfold spec_l2Cut.f impl_fraction.f spec_l1Most.f spec_l2Gcd.f impl_divisor.f
  simp only [gcd_l0]
  have hm : mx a (wrap64 (-a)) = a := by rw [w64 (by omega) (by omega)]; unfold mx; split <;> omega
  rw [hm, w64 (by omega) (by omega)]
  by_cases h : a > -a
  · rw [if_pos h]; rfl
  · rw [if_neg h, show -a = a from by omega]; rfl
theorem cut_range {a b A B : Int} (ha : 1 ≤ a) (ha1 : a ≤ A) (hb : 1 ≤ b) (hb1 : b ≤ B) : (1 ≤ (cut a b).1 ∧ (cut a b).1 ≤ A) ∧ 1 ≤ (cut a b).2 ∧ (cut a b).2 ≤ B := by
  have hg := gd_pos (a := a) hb
  have h1 : a / gd a b ≤ a := Int.ediv_le_self _ (by omega)
  have h2 : b / gd a b ≤ b := Int.ediv_le_self _ (by omega)
  have h3 : 0 < a / gd a b := Int.ediv_pos_of_pos_of_dvd (by omega) (by omega) (gd_dvd_left b (by omega))
  have h4 : 0 < b / gd a b := Int.ediv_pos_of_pos_of_dvd (by omega) (by omega) (gd_dvd_right a (by omega))
  show (1 ≤ a / gd a b ∧ a / gd a b ≤ A) ∧ 1 ≤ b / gd a b ∧ b / gd a b ≤ B
  omega
/-- A quotient of whole numbers is the same after the common divisor is taken out. -/
theorem cut_quot {a b : Int} (ha : 0 ≤ a) (hb : 1 ≤ b) : (cut a b).1 / (cut a b).2 = a / b := by
  have hg := gd_pos (a := a) hb
  obtain ⟨u, hu⟩ := gd_dvd_left b ha
  obtain ⟨v, hv⟩ := gd_dvd_right a (by omega : 0 ≤ b)
  show a / gd a b / (b / gd a b) = a / b
  have e1 : a / gd a b = u := by rw [show a / gd a b = gd a b * u / gd a b from by rw [← hu]]; exact Int.mul_ediv_cancel_left _ (by omega)
  have e2 : b / gd a b = v := by rw [show b / gd a b = gd a b * v / gd a b from by rw [← hv]]; exact Int.mul_ediv_cancel_left _ (by omega)
  rw [e1, e2]
  rw [show a / b = (gd a b * u) / (gd a b * v) from by rw [← hu, ← hv]]
  exact (Int.mul_ediv_mul_of_pos _ _ (by omega)).symm

end Go.Proofs.Ytckhmeadflafaaa.PureFracs
