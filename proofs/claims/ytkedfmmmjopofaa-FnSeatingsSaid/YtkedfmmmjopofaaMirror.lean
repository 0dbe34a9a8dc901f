/- Even seatings are seatings of the moment 0, and as many mirrored as not. No conditions beyond those of the lemmas' own hypotheses. -/
import Derived.Test.YtkedfmmmjopofaaEvens
import Derived.Test.YtkedfmmmjopofaaSeatX
namespace Go.Proofs.Ytkedfmmmjopofaa.PureMirror
open Go.RowKit Go.Proofs.Ytkedfmmmjopofaa.XSe Go.Proofs.Ytkedfmmmjopofaa.Plain Go.Proofs.Ytkedfmmmjopofaa.PureSeats Go.Proofs.Ytkedfmmmjopofaa.PureEvens Go.Proofs.Ytkedfmmmjopofaa.PureRowsX Go.Proofs.Ytkedfmmmjopofaa.PureSeatX Go.Proofs.YtkedfmmmjopofaaW.PrintWords Go.Proofs.YtkedfmmmjopofaaW.PrintLast Go.Proofs.YtkedfmmmjopofaaW.PrintMore
set_option linter.unusedVariables false
/-! ### even seatings are seatings -/
def Good (a : Int) (l : List Int) : Prop := ∀ i, i < l.length → okAt a l i = true
theorem rd_left {l : List Int} (x : Int) {i : Nat} (h : i < l.length) : rd (l ++ [x]) (i : Int) = rd l (i : Int) := by
  rw [rd_lt h, rd_lt (by simp; omega), List.getElem_append_left h]
theorem rd_last (l : List Int) (x : Int) : rd (l ++ [x]) (l.length : Int) = x := by
  rw [rd_lt (by simp)]; simp
theorem good_snoc {a : Int} {l : List Int} (h : Good a l) {x : Int} (h1 : wrap64 (30 - a) ≤ x ∧ x ≤ wrap64 (30 + a)) (h2 : x ≠ 30) (h3 : Has l x = false) : Good a (l ++ [x]) := by
  intro i hi
  rw [List.length_append, List.length_singleton] at hi
  by_cases c : i < l.length
  · have q := h i c
    unfold okAt at q ⊢
    rw [rd_left x c, List.take_append_of_le_length (Nat.le_of_lt c)]
    exact q
  · obtain rfl : i = l.length := by omega
    unfold okAt
    rw [rd_last, List.take_append_of_le_length (Nat.le_refl _), List.take_length, decide_eq_true h1, decide_eq_true h2, h3]; rfl
section
variable {ws : List Int} {kk : Int}
theorem evens_good (o : Ok ws kk) : ∀ j pre m, Good kk pre → ∀ x ∈ evens ws kk j pre m, Good kk x := by
  intro j
  induction j with
  | zero =>
    intro pre m hg x hx
    unfold evens at hx
    split at hx
    · rw [List.mem_singleton] at hx; subst hx; exact hg
    · cases hx
  | succ j ih =>
    intro pre m hg x hx
    rw [evens_succ, List.mem_flatMap] at hx
    obtain ⟨i, hi, hx⟩ := hx
    rw [List.mem_range'_1] at hi
    obtain ⟨b1, b2, b3, b4, b5, b6, b7⟩ := P_b o (i := i) (by omega)
    unfold one at hx
    split at hx
    · cases hx
    · rename_i hc
      have n1 : P kk i ≠ 30 := fun q => hc (Or.inl q)
      have n2 : Has pre (P kk i) = false := by
        cases h : Has pre (P kk i) with
        | false => rfl
        | true => exact absurd (Or.inr h) hc
      have hk := o.hk
      exact ih _ _ (good_snoc hg ⟨by rw [w64 (by omega) (by omega)]; unfold P; omega, b5⟩ n1 n2) x hx
theorem evens_mo (o : Ok ws kk) : ∀ j pre m, pre.length + j = ws.length → ∀ x ∈ evens ws kk j pre m, m + mo (ws.drop pre.length) (x.drop pre.length) = 0 := by
  intro j
  induction j with
  | zero =>
    intro pre m hj x hx
    unfold evens at hx
    split at hx
    · rename_i hm
      rw [show pre.length = ws.length from by omega, List.drop_length, hm]; rfl
    · cases hx
  | succ j ih =>
    intro pre m hj x hx
    rw [evens_succ, List.mem_flatMap] at hx
    obtain ⟨i, hi, hx⟩ := hx
    unfold one at hx
    split at hx
    · cases hx
    · have q := ih _ _ (by rw [List.length_append, List.length_singleton]; omega) x hx
      obtain ⟨l1, l2⟩ := evens_each ws kk j _ _ x hx
      rw [List.length_append, List.length_singleton] at q l1 l2
      have ha : pre.length < ws.length := by omega
      have hb : pre.length < x.length := by omega
      have e : x[pre.length] = P kk i := by
        have h1 : rd x (pre.length : Int) = rd (x.take (pre.length + 1)) (pre.length : Int) := by
          rw [rd_lt hb, rd_lt (by rw [List.length_take]; omega), List.getElem_take]
        rw [l2, rd_last, rd_lt hb] at h1
        exact h1
      rw [drop_cons ha, drop_cons hb, e]
      rw [rd_lt ha] at q
      show m + (ws[pre.length] * (P kk i - 30) + mo (ws.drop (pre.length + 1)) (x.drop (pre.length + 1))) = 0
      omega
theorem all_seat (o : Ok ws kk) {x : List Int} (hx : x ∈ All ws kk) : SeatOK ws kk x = true ∧ mo ws x = 0 := by
  have h1 := (evens_each ws kk ws.length [] 0 x hx).1
  have h2 := evens_good o ws.length [] 0 (fun i hi => by simp at hi) x hx
  have h3 := evens_mo o ws.length [] 0 (by simp) x hx
  refine ⟨?_, by simpa using h3⟩
  unfold SeatOK
  rw [Bool.and_eq_true, List.all_eq_true]
  refine ⟨fun i hi => h2 i (by rw [List.mem_range'_1] at hi; omega), decide_eq_true (by simpa using h1)⟩
end
/-! ### mirrored -/
def mir (l : List Int) : List Int := l.map fun x => 60 - x
theorem mir_len (l : List Int) : (mir l).length = l.length := by unfold mir; simp
theorem mir_rd {l : List Int} {i : Nat} (h : i < l.length) : rd (mir l) (i : Int) = 60 - rd l (i : Int) := by
  rw [rd_lt h, rd_lt (by rw [mir_len]; exact h)]; unfold mir; simp
theorem has_mir (l : List Int) (x : Int) : Has (mir l) (60 - x) = Has l x := by
  induction l with
  | nil => rfl
  | cons y l ih =>
    unfold Has mir at *
    rw [List.map_cons, List.any_cons, List.any_cons, ih]
    congr 1
    simp only [decide_eq_decide]
    omega
theorem mir_ok {ws : List Int} {a : Int} (ha : Sx a = true) {l : List Int} (h : SeatOK ws a l = true) : SeatOK ws a (mir l) = true := by
  have ha' := of_decide_eq_true ha
  unfold SeatOK at h ⊢
  rw [Bool.and_eq_true, List.all_eq_true] at h ⊢
  rw [mir_len]
  refine ⟨fun i hi => ?_, h.2⟩
  have q := h.1 i hi
  rw [List.mem_range'_1] at hi
  have hl : i < l.length := by omega
  unfold okAt at q ⊢
  rw [mir_rd hl, show (mir l).take i = mir (l.take i) from by unfold mir; rw [List.map_take], has_mir]
  rw [w64 (x := 30 - a) (by omega) (by omega), w64 (x := 30 + a) (by omega) (by omega)] at q ⊢
  simp only [Bool.and_eq_true, decide_eq_true_eq] at q ⊢
  obtain ⟨q1, q2, q3⟩ := q
  exact ⟨by omega, by omega, q3⟩
theorem mo_mir : ∀ ws l : List Int, mo ws (mir l) = -mo ws l := by
  intro ws
  induction ws with
  | nil => intro l; rfl
  | cons w ws ih =>
    intro l
    cases l with
    | nil => rfl
    | cons x l =>
      show w * (60 - x - 30) + mo ws (mir l) = -(w * (x - 30) + mo ws l)
      rw [ih, show 60 - x - 30 = -(x - 30) from by omega, Int.mul_neg]
      omega
/-! ### as many mirrored as not -/
def S (f : Nat → Nat) : Nat → Nat
  | 0 => 0
  | n + 1 => S f n + f n
theorem S_congr {f g : Nat → Nat} : ∀ n, (∀ i, i < n → f i = g i) → S f n = S g n := by
  intro n
  induction n with
  | zero => intro _; rfl
  | succ n ih => intro h; unfold S; rw [ih (fun i hi => h i (by omega)), h n (by omega)]
theorem S_first (f : Nat → Nat) : ∀ n, S f (n + 1) = f 0 + S (fun i => f (i + 1)) n := by
  intro n
  induction n with
  | zero => simp [S]
  | succ n ih =>
    show S f (n + 1) + f (n + 1) = f 0 + (S (fun i => f (i + 1)) n + f (n + 1))
    rw [ih]; omega
theorem S_rev (f : Nat → Nat) : ∀ n, S f n = S (fun i => f (n - 1 - i)) n := by
  intro n
  induction n generalizing f with
  | zero => rfl
  | succ n ih =>
    rw [S_first]
    show f 0 + S (fun i => f (i + 1)) n = S (fun i => f (n + 1 - 1 - i)) n + f (n + 1 - 1 - n)
    rw [ih (fun i => f (i + 1)), show n + 1 - 1 - n = 0 from by omega, Nat.add_comm]
    congr 1
    refine S_congr n fun i hi => ?_
    rw [show n - 1 - i + 1 = n + 1 - 1 - i from by omega]
theorem S_add (f : Nat → Nat) (a : Nat) : ∀ b, S f (a + b) = S f a + S (fun i => f (a + i)) b := by
  intro b
  induction b with
  | zero => rfl
  | succ b ih =>
    show S f (a + b) + f (a + b) = S f a + (S (fun i => f (a + i)) b + f (a + b))
    rw [ih]; omega
theorem flat_S {α : Type} (g : Nat → List α) : ∀ n a, ((List.range' a n).flatMap g).length = S (fun i => (g (a + i)).length) n := by
  intro n
  induction n with
  | zero => intro a; rfl
  | succ n ih =>
    intro a
    rw [List.range'_succ, List.flatMap_cons, List.length_append, ih, S_first]
    congr 1
    refine S_congr n fun i _ => ?_
    rw [show a + 1 + i = a + (i + 1) from by omega]
section
variable {ws : List Int} {kk : Int}
theorem P_mir (o : Ok ws kk) {i : Nat} (hi : i < 2 * kk.toNat + 1) : P kk (2 * kk.toNat - i) = 60 - P kk i := by
  have := o.hk
  unfold P
  omega
theorem evens_mir (o : Ok ws kk) : ∀ j pre m, (evens ws kk j (mir pre) (-m)).length = (evens ws kk j pre m).length := by
  intro j
  induction j with
  | zero =>
    intro pre m
    unfold evens
    by_cases h : m = 0
    · rw [if_pos h, if_pos (by omega)]; rfl
    · rw [if_neg h, if_neg (by omega)]
  | succ j ih =>
    intro pre m
    rw [evens_succ, evens_succ, flat_S, flat_S, S_rev]
    refine S_congr _ fun i hi => ?_
    rw [Nat.zero_add, Nat.zero_add, show 2 * kk.toNat + 1 - 1 - i = 2 * kk.toNat - i from by omega]
    unfold one
    rw [P_mir o hi, has_mir, mir_len]
    by_cases h : P kk i = 30 ∨ Has pre (P kk i) = true
    · rw [if_pos h, if_pos (h.imp (fun q => by omega) id)]
    · rw [if_neg h, if_neg (fun q => h (q.imp (fun q => by omega) id))]
      have e := ih (pre ++ [P kk i]) (m + rd ws (pre.length : Int) * (P kk i - 30))
      rw [show mir (pre ++ [P kk i]) = mir pre ++ [60 - P kk i] from by unfold mir; rw [List.map_append]; rfl] at e
      rw [← e]
      congr 2
      rw [show 60 - P kk i - 30 = -(P kk i - 30) from by omega, Int.mul_neg]
      omega
theorem all_even (o : Ok ws kk) (h : ws.length ≠ 0) : (All ws kk).length % 2 = 0 := by
  obtain ⟨j, hj⟩ : ∃ j, ws.length = j + 1 := ⟨ws.length - 1, by omega⟩
  unfold All
  rw [hj, evens_succ, flat_S]
  obtain ⟨f, hf⟩ : ∃ f : Nat → Nat, f = fun i => (one ws kk j [] 0 (0 + i)).length := ⟨_, rfl⟩
  rw [← hf]
  have sym : ∀ i, i < 2 * kk.toNat + 1 → f (2 * kk.toNat - i) = f i := by
    intro i hi
    rw [hf]
    show (one ws kk j [] 0 (0 + (2 * kk.toNat - i))).length = (one ws kk j [] 0 (0 + i)).length
    rw [Nat.zero_add, Nat.zero_add]
    unfold one
    rw [P_mir o hi]
    have hh : ∀ y, Has [] y = false := fun y => rfl
    rw [hh, hh]
    by_cases c : P kk i = 30
    · rw [if_pos (Or.inl c), if_pos (Or.inl (by omega))]
    · rw [if_neg (by simp; omega), if_neg (by simp; exact c), List.nil_append, List.nil_append]
      have e := evens_mir o j [P kk i] (0 + rd ws ((([] : List Int).length : Nat) : Int) * (P kk i - 30))
      rw [← e]
      show (evens ws kk j [60 - P kk i] _).length = (evens ws kk j [60 - P kk i] _).length
      congr 2
      rw [show 60 - P kk i - 30 = -(P kk i - 30) from by omega, Int.mul_neg]
      omega
  have mid : f kk.toNat = 0 := by
    rw [hf]
    show (one ws kk j [] 0 (0 + kk.toNat)).length = 0
    rw [Nat.zero_add]
    unfold one
    rw [if_pos (Or.inl (by unfold P; have := o.hk; omega))]; rfl
  have e1 : S f (2 * kk.toNat + 1) = S f kk.toNat + (f kk.toNat + S (fun i => f (kk.toNat + (i + 1))) kk.toNat) := by
    rw [show 2 * kk.toNat + 1 = kk.toNat + (kk.toNat + 1) from by omega, S_add, S_first]
    rfl
  have e2 : S (fun i => f (kk.toNat + (i + 1))) kk.toNat = S f kk.toNat := by
    rw [S_rev f]
    refine S_congr _ fun i hi => ?_
    rw [← sym (kk.toNat - 1 - i) (by omega)]
    congr 1
    omega
  rw [e1, e2, mid]
  omega
end
end Go.Proofs.Ytkedfmmmjopofaa.PureMirror
