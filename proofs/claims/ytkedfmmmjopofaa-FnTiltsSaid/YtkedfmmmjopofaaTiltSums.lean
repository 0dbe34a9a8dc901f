/- Counts of tilts by their moments: mirrored ones are as many, and all together are as many as there are tilts. No conditions beyond those of the lemmas' own hypotheses. -/
import Derived.Test.YtkedfmmmjopofaaCountTilts
import Derived.Test.YtkedfmmmjopofaaLeastTilt
import Derived.Test.YtkedfmmmjopofaaTiltRows
namespace Go.Proofs.Ytkedfmmmjopofaa.PureTiltSums
open Go.RowKit Go.Proofs.Ytkedfmmmjopofaa.XTi Go.Proofs.Ytkedfmmmjopofaa.Plain Go.Proofs.Ytkedfmmmjopofaa.Bits Go.Proofs.Ytkedfmmmjopofaa.PureSeats Go.Proofs.Ytkedfmmmjopofaa.PureArms Go.Proofs.Ytkedfmmmjopofaa.PureTilts Go.Proofs.Ytkedfmmmjopofaa.PureKnap Go.Proofs.YtkedfmmmjopofaaW.PrintWords Go.Proofs.YtkedfmmmjopofaaW.PrintLast Go.Proofs.YtkedfmmmjopofaaW.PrintMore
open Go.Proofs.Ytkedfmmmjopofaa.PureLeastTilt (mo sz Best best_is sz_eq mo_b)
set_option linter.unusedVariables false
theorem K_sym : ∀ (os : List Int) (s : Int), K os (os.sum - s) = K os s := by
  intro os
  induction os with
  | nil => intro s; unfold K; rw [List.sum_nil]; by_cases h : s = 0 <;> simp [h] <;> omega
  | cons o os ih =>
    intro s
    rw [List.sum_cons]
    show K os (o + os.sum - s) + K os (o + os.sum - s - o) = K os s + K os (s - o)
    rw [show o + os.sum - s = os.sum - (s - o) from by omega, show os.sum - (s - o) - o = os.sum - s from by omega, ih, ih]
    omega
theorem N_neg {ws ar : List Int} (h : ar.length = ws.length) (m : Int) : N ws ar (-m) = N ws ar m := by
  have h1 := N_eq ws ar h (-m)
  have h2 := N_eq ws ar h m
  have h3 := K_sym (owns ws ar) (((owns ws ar).sum + m) / 2)
  generalize (owns ws ar).sum = T at h1 h2 h3
  by_cases c : (T + m) % 2 = 0
  · rw [if_pos c] at h2
    rw [if_pos (by omega), show (T + -m) / 2 = T - (T + m) / 2 from by omega, h3] at h1
    omega
  · rw [if_neg c] at h2
    rw [if_neg (by omega)] at h1
    omega
theorem mom_le : ∀ ws ar ss : List Int, (∀ x ∈ ws, 1 ≤ x ∧ x ≤ 99) → (∀ x ∈ ar, 1 ≤ x ∧ x ≤ 6) → (∀ x ∈ ss, x = 1 ∨ x = -1) → ss.length = ws.length → -(owns ws ar).sum ≤ mom ws ar ss ∧ mom ws ar ss ≤ (owns ws ar).sum := by
  intro ws
  induction ws with
  | nil => intro ar ss _ _ _ _; simp [mom, owns]
  | cons w ws ih =>
    intro ar ss h1 h2 h3 hl
    cases ss with
    | nil => simp at hl
    | cons s ss =>
      cases ar with
      | nil => simp [mom, owns]
      | cons a ar =>
        have e := ih ar ss (fun x hx => h1 x (List.mem_cons_of_mem _ hx)) (fun x hx => h2 x (List.mem_cons_of_mem _ hx)) (fun x hx => h3 x (List.mem_cons_of_mem _ hx)) (by simpa using hl)
        have b := prod_b (h1 w (List.mem_cons_self ..)) (h2 a (List.mem_cons_self ..))
        have b3 := h3 s (List.mem_cons_self ..)
        have eo : (owns (w :: ws) (a :: ar)).sum = w * a + (owns ws ar).sum := by show (w * a :: owns ws ar).sum = _; rw [List.sum_cons]
        rw [eo]
        simp only [mom]
        rcases b3 with rfl | rfl
        · rw [Int.mul_one]; omega
        · rw [Int.mul_neg, Int.mul_one]; omega
/-- Each list of signs is a tilt with a number. -/
theorem tilt_of : ∀ ss : List Int, (∀ x ∈ ss, x = 1 ∨ x = -1) → ∃ c, c < 2 ^ ss.length ∧ tiltS ss.length c = ss := by
  intro ss
  induction ss with
  | nil => intro _; exact ⟨0, by simp, rfl⟩
  | cons s ss ih =>
    intro h
    obtain ⟨c, hc, e⟩ := ih (fun x hx => h x (List.mem_cons_of_mem _ hx))
    have hp : 2 ^ (s :: ss).length = 2 ^ ss.length + 2 ^ ss.length := by rw [List.length_cons, Nat.pow_succ]; omega
    rcases h s (List.mem_cons_self ..) with rfl | rfl
    · refine ⟨2 ^ ss.length + c, by omega, ?_⟩
      rw [List.length_cons, tiltS_succ, sgn_high hc, tiltS_add _ _ _ (Nat.le_refl _), e]
    · refine ⟨c, by omega, ?_⟩
      rw [List.length_cons, tiltS_succ, sgn_low hc, e]
theorem N_pos {ws ar : List Int} {c : Nat} (hc : c < 2 ^ ws.length) : 1 ≤ N ws ar (mo ws ar c) := by
  unfold N
  exact List.countP_pos_iff.2 ⟨c, List.mem_range.2 hc, decide_eq_true rfl⟩
theorem N_some {ws ar : List Int} {m : Int} (h : 0 < N ws ar m) : ∃ c, c < 2 ^ ws.length ∧ mo ws ar c = m := by
  unfold N at h
  obtain ⟨c, hc, e⟩ := List.countP_pos_iff.1 h
  exact ⟨c, List.mem_range.1 hc, of_decide_eq_true e⟩
/-- How many tilts have less than a moment. -/
def Less (ws ar : List Int) (m : Int) : Nat := (List.range (2 ^ ws.length)).countP fun c => decide (mo ws ar c < m)
theorem count_step (f : Nat → Int) (m : Int) : ∀ L : List Nat, L.countP (fun c => decide (f c < m + 1)) = L.countP (fun c => decide (f c < m)) + L.countP (fun c => decide (f c = m)) := by
  intro L
  induction L with
  | nil => rfl
  | cons c L ih =>
    rw [List.countP_cons, List.countP_cons, List.countP_cons, ih]
    by_cases h1 : f c < m
    · rw [decide_eq_true h1, decide_eq_true (show f c < m + 1 by omega), decide_eq_false (show ¬ f c = m by omega)]; simp; omega
    · by_cases h2 : f c = m
      · rw [decide_eq_false h1, decide_eq_true (show f c < m + 1 by omega), decide_eq_true h2]; simp; omega
      · rw [decide_eq_false h1, decide_eq_false (show ¬ f c < m + 1 by omega), decide_eq_false h2]; simp
theorem Less_succ (ws ar : List Int) (m : Int) : Less ws ar (m + 1) = Less ws ar m + N ws ar m := count_step (mo ws ar) m _
theorem Less_none {ws ar : List Int} (o : Ok ws ar) : Less ws ar (-(owns ws ar).sum) = 0 := by
  unfold Less
  rw [List.countP_eq_zero]
  intro c hc h
  have h1 := of_decide_eq_true h
  have h2 := mom_le ws ar (tiltS ws.length c) o.hw o.ha (tiltS_two _ _) (tiltS_len _ _)
  unfold mo at h1
  omega
theorem Less_all {ws ar : List Int} (o : Ok ws ar) : Less ws ar ((owns ws ar).sum + 1) = 2 ^ ws.length := by
  unfold Less
  have e : (List.range (2 ^ ws.length)).countP (fun c => decide (mo ws ar c < (owns ws ar).sum + 1)) = (List.range (2 ^ ws.length)).length := by
    rw [List.countP_eq_length]
    intro c hc
    have h2 := mom_le ws ar (tiltS ws.length c) o.hw o.ha (tiltS_two _ _) (tiltS_len _ _)
    refine decide_eq_true ?_
    unfold mo
    omega
  rw [e, List.length_range]
theorem N_le (ws ar : List Int) (m : Int) : N ws ar m ≤ 2 ^ ws.length := by
  unfold N
  refine Nat.le_trans List.countP_le_length ?_
  rw [List.length_range]; exact Nat.le_refl _
theorem Less_le (ws ar : List Int) (m : Int) : Less ws ar m ≤ 2 ^ ws.length := by
  unfold Less
  refine Nat.le_trans List.countP_le_length ?_
  rw [List.length_range]; exact Nat.le_refl _
end Go.Proofs.Ytkedfmmmjopofaa.PureTiltSums
