/- How many tilts have a moment: by the numbers of the tilts, and by the sums of what sits to the right. No conditions beyond those of the lemmas' own hypotheses. -/
import Derived.Test.YtkedfmmmjopofaaTilts
namespace Go.Proofs.Ytkedfmmmjopofaa.PureKnap
open Go.RowKit Go.Proofs.Ytkedfmmmjopofaa.XTi Go.Proofs.Ytkedfmmmjopofaa.Plain Go.Proofs.Ytkedfmmmjopofaa.Bits Go.Proofs.Ytkedfmmmjopofaa.PureSeats Go.Proofs.Ytkedfmmmjopofaa.PureArms Go.Proofs.Ytkedfmmmjopofaa.PureTilts Go.Proofs.YtkedfmmmjopofaaW.PrintWords Go.Proofs.YtkedfmmmjopofaaW.PrintLast Go.Proofs.YtkedfmmmjopofaaW.PrintMore
set_option linter.unusedVariables false
/-- How many choices of a list have a sum. -/
def K : List Int → Int → Int
  | [], s => if s = 0 then 1 else 0
  | o :: os, s => K os s + K os (s - o)
theorem K_neg {os : List Int} (h : ∀ o ∈ os, 0 ≤ o) : ∀ s : Int, s < 0 → K os s = 0 := by
  induction os with
  | nil => intro s hs; unfold K; rw [if_neg (by omega)]
  | cons o os ih =>
    intro s hs
    have ho := h o (List.mem_cons_self ..)
    have ih := ih (fun x hx => h x (List.mem_cons_of_mem _ hx))
    unfold K
    rw [ih s hs, ih (s - o) (by omega)]; rfl
theorem K_big {os : List Int} (h : ∀ o ∈ os, 0 ≤ o) : ∀ s : Int, os.sum < s → K os s = 0 := by
  induction os with
  | nil => intro s hs; unfold K; simp at hs; rw [if_neg (by omega)]
  | cons o os ih =>
    intro s hs
    have ho := h o (List.mem_cons_self ..)
    have ih := ih (fun x hx => h x (List.mem_cons_of_mem _ hx))
    rw [List.sum_cons] at hs
    unfold K
    rw [ih s (by omega), ih (s - o) (by omega)]; rfl
theorem K_snoc (a : List Int) (o : Int) : ∀ s, K (a ++ [o]) s = K a s + K a (s - o) := by
  induction a with
  | nil => intro s; rfl
  | cons x a ih =>
    intro s
    simp only [List.cons_append, K, ih]
    rw [show s - x - o = s - o - x from by omega]
    omega
theorem K_range (os : List Int) : ∀ s, 0 ≤ K os s ∧ K os s ≤ ((2 ^ os.length : Nat) : Int) := by
  induction os with
  | nil => intro s; unfold K; split <;> simp
  | cons o os ih =>
    intro s
    have h1 := ih s
    have h2 := ih (s - o)
    have e : 2 ^ (o :: os).length = 2 ^ os.length + 2 ^ os.length := by rw [List.length_cons, Nat.pow_succ]; omega
    rw [e]
    unfold K
    omega
/-- What the weights do at their arms. -/
def owns (ws ar : List Int) : List Int := List.zipWith (fun w a => w * a) ws ar
theorem owns_len {ws ar : List Int} (h : ar.length = ws.length) : (owns ws ar).length = ws.length := by unfold owns; rw [List.length_zipWith]; omega
theorem owns_at {ws ar : List Int} {i : Nat} (h1 : i < ws.length) (h2 : i < ar.length) (h3 : i < (owns ws ar).length) : (owns ws ar)[i] = ws[i] * ar[i] := List.getElem_zipWith ..
theorem owns_b {ws ar : List Int} (ha : ∀ x ∈ ar, 1 ≤ x ∧ x ≤ 6) (hw : ∀ x ∈ ws, 1 ≤ x ∧ x ≤ 99) : ∀ o ∈ owns ws ar, 1 ≤ o ∧ o ≤ 594 := by
  induction ws generalizing ar with
  | nil => intro o ho; cases ho
  | cons w ws ih =>
    cases ar with
    | nil => intro o ho; cases ho
    | cons a ar =>
      intro o ho
      rcases List.mem_cons.1 ho with rfl | ho
      · exact prod_b (hw w (List.mem_cons_self ..)) (ha a (List.mem_cons_self ..))
      · exact ih (fun x hx => ha x (List.mem_cons_of_mem _ hx)) (fun x hx => hw x (List.mem_cons_of_mem _ hx)) o ho
theorem mom_ones : ∀ ws ar : List Int, mom ws ar (List.replicate ws.length 1) = (owns ws ar).sum := by
  intro ws
  induction ws with
  | nil => intro ar; rfl
  | cons w ws ih =>
    intro ar
    cases ar with
    | nil => rfl
    | cons a ar =>
      rw [List.length_cons, List.replicate_succ]
      simp only [mom, owns, List.zipWith_cons_cons, List.sum_cons, Int.mul_one]
      rw [ih ar]; rfl
theorem sum_b : ∀ os : List Int, (∀ o ∈ os, 1 ≤ o ∧ o ≤ 594) → 0 ≤ os.sum ∧ os.sum ≤ 594 * (os.length : Int) ∧ ∀ o ∈ os, o ≤ os.sum := by
  intro os
  induction os with
  | nil => intro _; simp
  | cons o os ih =>
    intro h
    obtain ⟨h1, h2, h3⟩ := ih (fun x hx => h x (List.mem_cons_of_mem _ hx))
    have ho := h o (List.mem_cons_self ..)
    rw [List.sum_cons, List.length_cons]
    refine ⟨by omega, by omega, fun x hx => ?_⟩
    rcases List.mem_cons.1 hx with rfl | hx
    · omega
    · have := h3 x hx; omega
/-- How many tilts have a moment. -/
def N (ws ar : List Int) (m : Int) : Nat := (List.range (2 ^ ws.length)).countP fun c => decide (mom ws ar (tiltS ws.length c) = m)
theorem count_split (p : Nat → Bool) (j : Nat) : (List.range (2 ^ (j + 1))).countP p = (List.range (2 ^ j)).countP p + (List.range (2 ^ j)).countP (fun c => p (2 ^ j + c)) := by
  rw [show 2 ^ (j + 1) = 2 ^ j + 2 ^ j from by rw [Nat.pow_succ]; omega, List.range_add, List.countP_append, List.countP_map]
  rfl
theorem N_cons (w a : Int) (ws ar : List Int) (m : Int) : N (w :: ws) (a :: ar) m = N ws ar (m + w * a) + N ws ar (m - w * a) := by
  unfold N
  rw [List.length_cons, count_split]
  congr 1
  · refine List.countP_congr fun c hc => ?_
    rw [List.mem_range] at hc
    rw [tiltS_succ, sgn_low hc]
    simp only [mom, decide_eq_true_eq, Int.mul_neg, Int.mul_one]
    constructor <;> intro h <;> omega
  · refine List.countP_congr fun c hc => ?_
    rw [List.mem_range] at hc
    rw [tiltS_succ, sgn_high hc, tiltS_add _ _ _ (Nat.le_refl _)]
    simp only [mom, decide_eq_true_eq, Int.mul_one]
    constructor <;> intro h <;> omega
theorem N_eq : ∀ ws ar : List Int, ar.length = ws.length → ∀ m : Int, (N ws ar m : Int) = if ((owns ws ar).sum + m) % 2 = 0 then K (owns ws ar) (((owns ws ar).sum + m) / 2) else 0 := by
  intro ws
  induction ws with
  | nil =>
    intro ar _ m
    have e : owns [] ar = [] := rfl
    have en : N [] ar m = if (0 : Int) = m then 1 else 0 := by
      unfold N
      simp only [List.length_nil, Nat.pow_zero, mom_nilw, List.range_one, List.countP_cons, List.countP_nil, Nat.zero_add]
      by_cases h : (0 : Int) = m <;> simp [h]
    rw [e, en, List.sum_nil]
    unfold K
    by_cases h : (0 : Int) = m
    · subst h; rfl
    · rw [if_neg h]
      by_cases h2 : (0 + m) % 2 = 0
      · rw [if_pos h2, if_neg (by omega)]; rfl
      · rw [if_neg h2]; rfl
  | cons w ws ih =>
    intro ar hl m
    cases ar with
    | nil => simp at hl
    | cons a ar =>
      have hl' : ar.length = ws.length := by simpa using hl
      rw [N_cons, Int.natCast_add, ih ar hl', ih ar hl']
      have e : owns (w :: ws) (a :: ar) = w * a :: owns ws ar := rfl
      rw [e, List.sum_cons]
      obtain ⟨o, ho⟩ : ∃ o, w * a = o := ⟨_, rfl⟩
      rw [ho]
      obtain ⟨T, hT⟩ : ∃ T, (owns ws ar).sum = T := ⟨_, rfl⟩
      rw [hT]
      by_cases h : (o + T + m) % 2 = 0
      · rw [if_pos h, if_pos (by omega), if_pos (by omega)]
        show _ = K (owns ws ar) ((o + T + m) / 2) + K (owns ws ar) ((o + T + m) / 2 - o)
        rw [show (T + (m + o)) / 2 = (o + T + m) / 2 from by omega, show (T + (m - o)) / 2 = (o + T + m) / 2 - o from by omega]
      · rw [if_neg h, if_neg (by omega), if_neg (by omega)]; rfl
/-- A table of numbers from 0 to T. -/
def Tab (x : List Int) (T : Int) (g : Int → Int) : Prop := (x.length : Int) = T + 1 ∧ ∀ s, 0 ≤ s → s ≤ T → rd x s = g s
theorem rd_set {x : List Int} {t s v : Int} (h0 : 0 ≤ t) (h1 : t < (x.length : Int)) (h2 : 0 ≤ s) (h3 : s < (x.length : Int)) : rd (x.set t.toNat v) s = if s = t then v else rd x s := by
  unfold rd
  rw [List.getD_eq_getElem?_getD, List.getD_eq_getElem?_getD, List.getElem?_set]
  by_cases h : s = t
  · subst h
    rw [if_pos rfl, if_pos (by omega), if_pos rfl]; rfl
  · rw [if_neg (by omega), if_neg h]
theorem Tab_set {x : List Int} {T : Int} {g : Int → Int} (h : Tab x T g) {t v : Int} (h0 : 0 ≤ t) (h1 : t ≤ T) : Tab (x.set t.toNat v) T (fun s => if s = t then v else g s) := by
  obtain ⟨e, h⟩ := h
  refine ⟨by rw [List.length_set]; exact e, fun s s0 s1 => ?_⟩
  rw [rd_set h0 (by omega) s0 (by omega), h s s0 s1]
theorem Tab_congr {x : List Int} {T : Int} {g f : Int → Int} (h : Tab x T g) (hf : ∀ s, 0 ≤ s → s ≤ T → g s = f s) : Tab x T f := ⟨h.1, fun s s0 s1 => (h.2 s s0 s1).trans (hf s s0 s1)⟩
theorem rd_rep (n : Nat) (s : Int) : rd (List.replicate n 0) s = 0 := by
  unfold rd
  rw [List.getD_eq_getElem?_getD, List.getElem?_replicate]
  split <;> rfl
end Go.Proofs.Ytkedfmmmjopofaa.PureKnap
