/- The even seatings in order, as the reference finds them. No conditions beyond those of the lemmas' own hypotheses. -/
import Derived.Test.YtkedfmmmjopofaaSeats
import Derived.Test.YtkedfmmmjopofaaXSex8
import Derived.Test.YtkedfmmmjopofaaXSex7
import Derived.Test.YtkedfmmmjopofaaXSex5
namespace Go.Proofs.Ytkedfmmmjopofaa.PureEvens
open Go.RowKit Go.Proofs.Ytkedfmmmjopofaa.XSe Go.Proofs.Ytkedfmmmjopofaa.Plain Go.Proofs.Ytkedfmmmjopofaa.PureSeats Go.Proofs.YtkedfmmmjopofaaW.PrintWords Go.Proofs.YtkedfmmmjopofaaW.PrintLast Go.Proofs.YtkedfmmmjopofaaW.PrintMore
set_option linter.unusedVariables false
/-- The place by its number. -/
def P (kk : Int) (i : Nat) : Int := 30 - kk + (i : Int)
/-- The even seatings that begin with some seats, so many weights being left. -/
def evens (ws : List Int) (kk : Int) : Nat → List Int → Int → List (List Int)
  | 0, pre, m => if m = 0 then [pre] else []
  | j + 1, pre, m => (List.range' 0 (2 * kk.toNat + 1)).flatMap fun i => if P kk i = 30 ∨ Has pre (P kk i) = true then [] else evens ws kk j (pre ++ [P kk i]) (m + rd ws (pre.length : Int) * (P kk i - 30))
/-- What one place brings. -/
def one (ws : List Int) (kk : Int) (j : Nat) (pre : List Int) (m : Int) (i : Nat) : List (List Int) := if P kk i = 30 ∨ Has pre (P kk i) = true then [] else evens ws kk j (pre ++ [P kk i]) (m + rd ws (pre.length : Int) * (P kk i - 30))
theorem evens_succ (ws : List Int) (kk : Int) (j : Nat) (pre : List Int) (m : Int) : evens ws kk (j + 1) pre m = (List.range' 0 (2 * kk.toNat + 1)).flatMap (one ws kk j pre m) := rfl
theorem evens_each (ws : List Int) (kk : Int) : ∀ j pre m, ∀ x ∈ evens ws kk j pre m, x.length = pre.length + j ∧ x.take pre.length = pre := by
  intro j
  induction j with
  | zero =>
    intro pre m x hx
    unfold evens at hx
    split at hx
    · rw [List.mem_singleton] at hx; subst hx; exact ⟨rfl, List.take_length⟩
    · cases hx
  | succ j ih =>
    intro pre m x hx
    rw [evens_succ, List.mem_flatMap] at hx
    obtain ⟨i, _, hx⟩ := hx
    unfold one at hx
    split at hx
    · cases hx
    · obtain ⟨h1, h2⟩ := ih _ _ x hx
      rw [List.length_append, List.length_singleton] at h1 h2
      refine ⟨by omega, ?_⟩
      have := congrArg (List.take pre.length) h2
      rw [List.take_take, Nat.min_eq_left (by omega), List.take_append_of_le_length (Nat.le_refl _), List.take_length] at this
      exact this
theorem flat_len {α β : Type} (f : α → List β) (b : Nat) : ∀ L : List α, (∀ x ∈ L, (f x).length ≤ b) → (L.flatMap f).length ≤ L.length * b := by
  intro L
  induction L with
  | nil => intro _; simp
  | cons x L ih =>
    intro h
    have h1 := ih (fun y hy => h y (List.mem_cons_of_mem _ hy))
    have h2 := h x (List.mem_cons_self ..)
    rw [List.flatMap_cons, List.length_append, List.length_cons, Nat.succ_mul]
    omega
theorem evens_len (ws : List Int) {kk : Int} (hk : kk ≤ 6) : ∀ j pre m, (evens ws kk j pre m).length ≤ 13 ^ j := by
  intro j
  induction j with
  | zero => intro pre m; unfold evens; split <;> simp
  | succ j ih =>
    intro pre m
    rw [evens_succ]
    have h := flat_len (one ws kk j pre m) (13 ^ j) (List.range' 0 (2 * kk.toNat + 1)) (fun i _ => by
      unfold one
      split
      · simp
      · exact ih _ _)
    rw [List.length_range'] at h
    refine Nat.le_trans h ?_
    rw [Nat.pow_succ, Nat.mul_comm]
    exact Nat.mul_le_mul_left _ (by omega)
/-- What is known of weights and seats. -/
structure Ok (ws : List Int) (kk : Int) : Prop where
  lw : ws.length ≤ 6
  hk : 1 ≤ kk ∧ kk ≤ 6
  hw : ∀ x ∈ ws, 1 ≤ x ∧ x ≤ 99
def CanOK (ws : List Int) (kk : Int) : Bool := WsOK ws && Sx kk && decide (ws.length ≤ 6)
theorem Ok.of {ws : List Int} {kk : Int} (h : CanOK ws kk = true) : Ok ws kk := by
  unfold CanOK WsOK at h
  simp only [Bool.and_eq_true, decide_eq_true_eq, List.all_eq_true] at h
  obtain ⟨⟨⟨h1, _⟩, h2⟩, h3⟩ := h
  exact ⟨h3, of_decide_eq_true h2, fun x hx => of_decide_eq_true (h1 x hx)⟩
theorem canSeat_ev (ws : List Int) (hw : ws.length ≤ 140737488355328) (kk : Int) : Ev (fun k => impl_canSeat.f k ws kk) (CanOK ws kk) := by
  have h1 := areWeights_ev ws hw
  unfold impl_canSeat.f CanOK
  refine Ev.bind h1 ?_
  cases WsOK ws with
  | false => exact ifn Bool.false_ne_true (done (by simp))
  | true =>
    refine ifp (Eq.refl true) (somb (isSeats_eq kk) ?_)
    cases Sx kk with
    | false => exact ifn Bool.false_ne_true (done (by simp))
    | true => exact ifp (Eq.refl true) (done (by simp; omega))
theorem term_b {w p : Int} (hw : 1 ≤ w ∧ w ≤ 99) (hp : -6 ≤ p - 30 ∧ p - 30 ≤ 6) : -594 ≤ w * (p - 30) ∧ w * (p - 30) ≤ 594 := by
  obtain ⟨d, hd⟩ : ∃ d, p - 30 = d := ⟨_, rfl⟩
  rw [hd] at hp ⊢
  have h0 := Int.mul_le_mul_of_nonneg_left hp.2 (show 0 ≤ w by omega)
  have h1 := Int.mul_le_mul_of_nonneg_left hp.1 (show 0 ≤ w by omega)
  constructor <;> omega
section
variable {ws : List Int} {kk : Int}
theorem P_b (o : Ok ws kk) {i : Nat} (hi : i < 2 * kk.toNat + 1) : -6 ≤ P kk i - 30 ∧ P kk i - 30 ≤ 6 ∧ 24 ≤ P kk i ∧ P kk i ≤ 36 ∧ P kk i ≤ wrap64 (30 + kk) ∧ wrap64 (P kk i + 1) = P kk (i + 1) ∧ wrap64 (P kk i - 30) = P kk i - 30 := by
  have := o.hk
  unfold P
  rw [w64 (x := 30 + kk) (by omega) (by omega), w64 (x := 30 - kk + (i : Int) + 1) (by omega) (by omega), w64 (x := 30 - kk + (i : Int) - 30) (by omega) (by omega)]
  refine ⟨by omega, by omega, by omega, by omega, by omega, by omega, rfl⟩
theorem P_end (o : Ok ws kk) : ¬ P kk (2 * kk.toNat + 1) ≤ wrap64 (30 + kk) := by
  have := o.hk
  unfold P
  rw [w64 (x := 30 + kk) (by omega) (by omega)]
  omega
theorem P_zero (o : Ok ws kk) : wrap64 (30 - kk) = P kk 0 := by
  have := o.hk
  unfold P
  rw [w64 (by omega) (by omega)]; omega
theorem next_m (o : Ok ws kk) {a : Nat} (ha : a < ws.length) {i : Nat} (hi : i < 2 * kk.toNat + 1) {m : Int} (h1 : -594 * (a : Int) ≤ m) (h2 : m ≤ 594 * (a : Int)) : wrap64 (m + wrap64 (rd ws (a : Int) * wrap64 (P kk i - 30))) = m + rd ws (a : Int) * (P kk i - 30) ∧ -594 * ((a + 1 : Nat) : Int) ≤ m + rd ws (a : Int) * (P kk i - 30) ∧ m + rd ws (a : Int) * (P kk i - 30) ≤ 594 * ((a + 1 : Nat) : Int) := by
  have lw := o.lw
  obtain ⟨b1, b2, _, _, _, _, b3⟩ := P_b o hi
  have hw := o.hw ws[a] (List.getElem_mem ha)
  have t := term_b hw ⟨b1, b2⟩
  rw [b3, rd_lt ha]
  generalize ws[a] * (P kk i - 30) = y at *
  rw [w64 (x := y) (by omega) (by omega), w64 (by omega) (by omega)]
  exact ⟨rfl, by omega, by omega⟩
/-- What a search has found, one seating more. -/
def add (f : List Int × Int) (s : List Int) : List Int × Int := (if f.2 = 0 then s else f.1, wrap64 (f.2 + 1))
theorem own_eq (l : List Int) (h : l.length < 17592186044416) : spec_l1Own.f l = some l := by
  unfold spec_l1Own.f
  simp [h]
theorem search_ev (o : Ok ws kk) : ∀ j : Nat, ∀ pre : List Int, pre.length + j = ws.length → ∀ m : Int, -594 * (pre.length : Int) ≤ m → m ≤ 594 * (pre.length : Int) → ∀ f : List Int × Int, Ev (fun k => spec_l9Search.f k ws kk pre m f.1 f.2) ((evens ws kk j pre m).foldl add f) := by
  have lw := o.lw
  intro j
  induction j with
  | zero =>
    intro pre hj m h1 h2 f
    refine Ev.step (fun k => by simp only [spec_l9Search.f]; exact rfl) (ifp (by omega) ?_)
    unfold evens
    by_cases hm : m = 0
    · refine ifp hm ?_
      rw [if_pos hm]
      by_cases hf : f.2 = 0
      · exact ifp hf (done (by simp [add, hf]))
      · exact ifn hf (done (by simp [add, hf]))
    · refine ifn hm (done ?_)
      rw [if_neg hm]; rfl
  | succ j ih =>
    intro pre hj m h1 h2 f
    have ha : pre.length < ws.length := by omega
    refine Ev.step (fun k => by simp only [spec_l9Search.f]; exact rfl) (ifn (by omega) ?_)
    rw [evens_succ, P_zero o]
    suffices key : ∀ i, i ≤ 2 * kk.toNat + 1 → ∀ f : List Int × Int, Ev (fun k => spec_l9Search.l0 k ws kk pre m (P kk i) f.1 f.2) (((List.range' i (2 * kk.toNat + 1 - i)).flatMap (one ws kk j pre m)).foldl add f) from key 0 (Nat.zero_le _) f
    refine downTo (2 * kk.toNat + 1) ?_ ?_
    · intro f
      refine Ev.step (fun k => by simp only [spec_l9Search.l0]; exact rfl) (ifn (P_end o) (done ?_))
      rw [Nat.sub_self]; rfl
    · intro i hi ihi f
      obtain ⟨b1, b2, b3, b4, b5, b6, b7⟩ := P_b o hi
      rw [show 2 * kk.toNat + 1 - i = (2 * kk.toNat + 1 - (i + 1)) + 1 from by omega, List.range'_succ, List.flatMap_cons, List.foldl_append]
      have skip : Ev (fun k => spec_l9Search.j1 k ws kk pre m (P kk i) false f.1 f.2) (((List.range' (i + 1) (2 * kk.toNat + 1 - (i + 1))).flatMap (one ws kk j pre m)).foldl add f) := by
        have e := ihi f
        rw [← b6] at e
        exact Ev.step (fun k => by simp only [spec_l9Search.j1]; exact rfl) (ifn Bool.false_ne_true e)
      refine Ev.step (fun k => by simp only [spec_l9Search.l0]; exact rfl) (ifp b5 ?_)
      by_cases h30 : P kk i = 30
      · rw [show one ws kk j pre m i = [] from by unfold one; rw [if_pos (Or.inl h30)]]
        exact ifp h30 skip
      · refine ifn h30 ?_
        have hh := l1Has_ev pre (by omega) (P kk i)
        cases hc : Has pre (P kk i) with
        | true =>
          rw [hc] at hh
          rw [show one ws kk j pre m i = [] from by unfold one; rw [if_pos (Or.inr hc)]]
          exact Ev.bind hh skip
        | false =>
          rw [hc] at hh
          rw [show one ws kk j pre m i = evens ws kk j (pre ++ [P kk i]) (m + rd ws (pre.length : Int) * (P kk i - 30)) from by unfold one; rw [if_neg (by rw [hc]; simp [h30])]]
          obtain ⟨n1, n2, n3⟩ := next_m o ha hi h1 h2
          have hl : (pre ++ [P kk i]).length = pre.length + 1 := by simp
          have e1 := ih (pre ++ [P kk i]) (by omega) (m + rd ws (pre.length : Int) * (P kk i - 30)) (by rw [hl]; exact n2) (by rw [hl]; exact n3) f
          have e2 := ihi ((evens ws kk j (pre ++ [P kk i]) (m + rd ws (pre.length : Int) * (P kk i - 30))).foldl add f)
          rw [← n1] at e1
          rw [← b6] at e2
          rw [← n1] at e2 ⊢
          have q : Ev (fun k => spec_l9Search.j1 k ws kk pre m (P kk i) true f.1 f.2) (((List.range' (i + 1) (2 * kk.toNat + 1 - (i + 1))).flatMap (one ws kk j pre m)).foldl add ((evens ws kk j (pre ++ [P kk i]) (wrap64 (m + wrap64 (rd ws (pre.length : Int) * wrap64 (P kk i - 30))))).foldl add f)) := by
            refine Ev.step (fun k => by simp only [spec_l9Search.j1]; exact rfl) (ifp (Eq.refl true) (somb (own_eq pre (by omega)) ?_))
            refine somb (a := [P kk i]) rfl (ifp (by simp only [List.length_singleton]; omega) (ifp (by omega) (ifp (by omega) ?_)))
            exact Ev.bind e1 e2
          exact Ev.bind hh q
theorem fold_add : ∀ (L : List (List Int)) (f : List Int × Int), 0 ≤ f.2 → f.2 + (L.length : Int) ≤ 4611686018427387904 → L.foldl add f = (if f.2 = 0 then L.head?.getD f.1 else f.1, f.2 + (L.length : Int)) := by
  intro L
  induction L with
  | nil => intro f _ _; simp
  | cons x L ih =>
    intro f h0 h1
    rw [List.length_cons] at h1
    have hw : wrap64 (f.2 + 1) = f.2 + 1 := w64 (by omega) (by omega)
    rw [List.foldl_cons, ih (add f x) (by unfold add; rw [hw]; show 0 ≤ f.2 + 1; omega) (by unfold add; rw [hw]; show f.2 + 1 + (L.length : Int) ≤ _; omega)]
    unfold add
    rw [hw]
    show (if f.2 + 1 = 0 then _ else (if f.2 = 0 then x else f.1), f.2 + 1 + (L.length : Int)) = _
    rw [if_neg (by omega), List.length_cons]
    refine Prod.ext ?_ (by show f.2 + 1 + (L.length : Int) = f.2 + ((L.length + 1 : Nat) : Int); omega)
    by_cases hf : f.2 = 0 <;> simp [hf]
/-- All even seatings. -/
def All (ws : List Int) (kk : Int) : List (List Int) := evens ws kk ws.length [] 0
theorem all_len (o : Ok ws kk) : (All ws kk).length ≤ 4826809 := by
  have h := evens_len ws o.hk.2 ws.length [] 0
  have := Nat.pow_le_pow_right (n := 13) (by decide) o.lw
  unfold All
  omega
theorem all_ev (o : Ok ws kk) : Ev (fun k => spec_l9Search.f k ws kk [] 0 [] 0) ((All ws kk).head?.getD [], ((All ws kk).length : Int)) := by
  have hl := all_len o
  have e := search_ev o ws.length [] (by simp) 0 (by simp) (by simp) ([], 0)
  have hf := fold_add (All ws kk) ([], 0) (Int.le_refl _) (by show 0 + ((All ws kk).length : Int) ≤ _; omega)
  rw [show (evens ws kk ws.length [] 0).foldl add ([], 0) = ((All ws kk).head?.getD [], ((All ws kk).length : Int)) from by rw [show evens ws kk ws.length [] 0 = All ws kk from rfl, hf]; simp] at e
  exact e
end
end Go.Proofs.Ytkedfmmmjopofaa.PureEvens
