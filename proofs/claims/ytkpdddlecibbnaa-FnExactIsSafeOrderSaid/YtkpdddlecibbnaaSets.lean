/- Sets of items, as numbers' bits, in the program and in the reference alike. No conditions beyond those of the lemmas' own hypotheses. -/
import Derived.Test.YtkpdddlecibbnaaRaft
import Derived.Test.YtkpdddlecibbnaaBits
import Derived.Test.YtkpdddlecibbnaaInts
import Derived.Test.YtkpdddlecibbnaaXAllx14
import Derived.Test.YtkpdddlecibbnaaXAllx15
namespace Go.Proofs.Ytkpdddlecibbnaa.PureSets
open Go.RowKit Go.Proofs.Ytkpdddlecibbnaa.XAll Go.Proofs.Ytkpdddlecibbnaa.Plain Go.Proofs.Ytkpdddlecibbnaa.Bits Go.Proofs.Ytkpdddlecibbnaa.PureRow Go.Proofs.Ytkpdddlecibbnaa.PureRaft Go.Proofs.YtkpdddlecibbnaaW.PrintWords Go.Proofs.YtkpdddlecibbnaaW.PrintLast Go.Proofs.YtkpdddlecibbnaaW.PrintMore
set_option linter.unusedVariables false

def Ris (hi : Int) : Option Int → List Int → Bool
  | _, [] => true
  | none, x :: r => decide (0 ≤ x ∧ x ≤ hi) && Ris hi (some x) r
  | some p, x :: r => decide (0 ≤ x ∧ x ≤ hi) && (decide (p < x) && Ris hi (some x) r)
def prev (l : List Int) (i : Nat) : Option Int := if i = 0 then none else l[i - 1]?
theorem ris_at (hi : Int) (l : List Int) {i : Nat} (h : i < l.length) :
    Ris hi (prev l i) (l.drop i) = (decide (0 ≤ l[i] ∧ l[i] ≤ hi) && ((if i = 0 then true else decide (rd l ((i : Int) - 1) < l[i])) && Ris hi (prev l (i + 1)) (l.drop (i + 1)))) := by
  have e : prev l (i + 1) = some l[i] := by unfold prev; rw [if_neg (by omega)]; exact List.getElem?_eq_getElem h
  rw [drop_cons h, e]
  by_cases h0 : i = 0
  · unfold prev; rw [if_pos h0, if_pos h0]; simp [Ris]
  · have e2 : prev l i = some (rd l ((i : Int) - 1)) := by
      unfold prev
      rw [if_neg h0, show (i : Int) - 1 = ((i - 1 : Nat) : Int) from by omega, rd_lt (by omega)]
      exact List.getElem?_eq_getElem (by omega)
    rw [e2, if_neg h0]; simp [Ris]

theorem rising_l0 (hi : Int) (l : List Int) (hn : l.length ≤ 140737488355328) : ∀ i, i ≤ l.length → Ev (fun k => spec_l1Rising.l0 k l 0 hi (i : Int)) (Ris hi (prev l i) (l.drop i)) := by
  refine downTo l.length ?_ ?_
  · rw [List.drop_length]
    refine Ev.step (fun k => by simp only [spec_l1Rising.l0]; exact rfl) (ifn (by omega) (done ?_))
    cases prev l l.length <;> rfl
  · intro i hi' ih
    rw [ris_at hi l hi']
    refine Ev.step (fun k => by simp only [spec_l1Rising.l0]; exact rfl) (ifp (by omega) (ifp (by omega) (somb (l1In_eq _ _ _) ?_)))
    rw [rd_lt hi', wrapS hi' hn]
    by_cases hb : 0 ≤ l[i] ∧ l[i] ≤ hi
    · refine ifp (by simpa using hb) ?_
      rw [show decide (0 ≤ l[i] ∧ l[i] ≤ hi) = true from by simpa using hb, Bool.true_and]
      by_cases h0 : i = 0
      · refine ifn (by omega) ?_
        rw [if_pos h0, Bool.true_and]; exact ih
      · rw [if_neg h0, w64 (x := (i : Int) - 1) (by omega) (by omega)]
        refine ifp (by omega) (ifp (by omega) (ifp (by omega) ?_))
        by_cases hp : rd l ((i : Int) - 1) < l[i]
        · refine ifn (by omega) ?_
          rw [show decide (rd l ((i : Int) - 1) < l[i]) = true from by simpa using hp, Bool.true_and]; exact ih
        · refine ifp (by omega) (done ?_)
          simp [hp]
    · refine ifn (by simpa using hb) (done ?_)
      simp [hb]
theorem rising_ev (hi : Int) (l : List Int) (hn : l.length ≤ 140737488355328) : Ev (fun k => spec_l1Rising.f k l 0 hi) (Ris hi none l) := by
  have := rising_l0 hi l hn 0 (Nat.zero_le _)
  simpa [prev, spec_l1Rising.f] using this

theorem bits_l0 (cg : List Ld) (hc : cg.length ≤ 140737488355328) (l : List Int) (hn : l.length ≤ 140737488355328) : ∀ i, i ≤ l.length → ∀ acc : Int, ∃ c : Int,
    Ev (fun k => impl_bitsOf.l0 k cg l acc l (l.length : Int) (i : Int)) (if Ris ((cg.length : Int) - 1) (prev l i) (l.drop i) then (c, true) else (0, false)) := by
  have hw : wrap64 ((cg.length : Int) - 1) = (cg.length : Int) - 1 := w64 (by omega) (by omega)
  refine downTo l.length ?_ ?_
  · intro acc
    refine ⟨acc, ?_⟩
    rw [List.drop_length]
    refine Ev.step (fun k => by simp only [impl_bitsOf.l0]; exact rfl) (ifn (by omega) (done ?_))
    cases prev l l.length <;> rfl
  · intro i hi ih acc
    rw [ris_at _ l hi]
    obtain ⟨c, hcev⟩ := ih (Go.bits .or .i64 acc (shl .i64 1 l[i]))
    refine ⟨c, Ev.step (fun k => by simp only [impl_bitsOf.l0]; exact rfl) (ifp (by omega) (ifp (by omega) (ifp (by omega) (somb (within_eq _ _ _) ?_))))⟩
    rw [rd_lt hi, wrapS hi hn, hw]
    by_cases hb : 0 ≤ l[i] ∧ l[i] ≤ (cg.length : Int) - 1
    · refine ifp (by simpa using hb) ?_
      rw [show decide (0 ≤ l[i] ∧ l[i] ≤ (cg.length : Int) - 1) = true from by simpa using hb, Bool.true_and]
      by_cases h0 : i = 0
      · refine ifn (by omega) (ifp hb.1 ?_)
        rw [if_pos h0, Bool.true_and]; exact hcev
      · rw [if_neg h0, w64 (x := (i : Int) - 1) (by omega) (by omega)]
        refine ifp (by omega) (ifp (by omega) (ifp (by omega) ?_))
        by_cases hp : rd l ((i : Int) - 1) < l[i]
        · refine ifn (by omega) (ifp hb.1 ?_)
          rw [show decide (rd l ((i : Int) - 1) < l[i]) = true from by simpa using hp, Bool.true_and]; exact hcev
        · refine ifp (by omega) (done ?_)
          simp [hp]
    · refine ifn (by simpa using hb) (done ?_)
      simp [hb]

theorem addP (acc : Nat) {Q : Nat} (hQ : Q ≤ 4611686018427387904) (ha : acc < Q) : wrap64 ((acc : Int) + (Q : Int)) = ((acc + Q : Nat) : Int) := by
  rw [w64 (by omega) (by omega)]; omega
theorem orP (acc : Nat) {x : Nat} (hQ : 2 ^ x ≤ 4611686018427387904) (ha : acc < 2 ^ x) : Go.bits .or .i64 (acc : Int) ((2 ^ x : Nat) : Int) = ((acc + 2 ^ x : Nat) : Int) := by
  rw [orN _ _ (Nat.le_trans (Nat.le_of_lt ha) hQ) hQ, or_add acc x (bit_of_lt ha)]
theorem code_l0 (cg : List Ld) (hc : cg.length ≤ 8) (l : List Int) (hn : l.length ≤ 140737488355328) : ∀ i, i ≤ l.length → ∀ acc m : Nat, Ris ((cg.length : Int) - 1) (prev l i) (l.drop i) = true → acc < 2 ^ m → m ≤ 8 → (∀ p, prev l i = some p → (m : Int) = p + 1) → (i = 0 → m = 0) →
    ∃ c : Int, Ev (fun k => spec_l10Code.l0 k l (acc : Int) (i : Int)) (c, true) ∧ Ev (fun k => impl_bitsOf.l0 k cg l (acc : Int) l (l.length : Int) (i : Int)) (c, true) := by
  have hw : wrap64 ((cg.length : Int) - 1) = (cg.length : Int) - 1 := w64 (by omega) (by omega)
  refine downTo l.length ?_ ?_
  · intro acc m _ _ _ _ _
    exact ⟨(acc : Int), Ev.step (fun k => by simp only [spec_l10Code.l0]; exact rfl) (ifn (by omega) (done rfl)), Ev.step (fun k => by simp only [impl_bitsOf.l0]; exact rfl) (ifn (by omega) (done rfl))⟩
  · intro i hi ih acc m hr ha hm8 hm h0m
    rw [ris_at _ l hi] at hr
    simp only [Bool.and_eq_true, decide_eq_true_eq] at hr
    obtain ⟨⟨hx0, hx1⟩, hx2, hr⟩ := hr
    obtain ⟨x, hx⟩ := Int.eq_ofNat_of_zero_le hx0
    have hmx : m ≤ x := by
      by_cases h0 : i = 0
      · have := h0m h0; omega
      · rw [if_neg h0] at hx2
        have := hm (rd l ((i : Int) - 1)) (by
          unfold prev
          rw [if_neg h0, show (i : Int) - 1 = ((i - 1 : Nat) : Int) from by omega, rd_lt (by omega)]
          exact List.getElem?_eq_getElem (by omega))
        simp only [decide_eq_true_eq] at hx2
        omega
    have hx7 : x ≤ 7 := by omega
    have hlt : acc < 2 ^ x := Nat.lt_of_lt_of_le ha (Nat.pow_le_pow_right (by decide) hmx)
    have hp := pow62 (n := x) (by omega)
    have hnext : acc + 2 ^ x < 2 ^ (x + 1) := by
      have : 2 ^ (x + 1) = 2 ^ x * 2 := Nat.pow_succ ..
      omega
    obtain ⟨c, e1, e2⟩ := ih (acc + 2 ^ x) (x + 1) hr hnext (by omega) (by
      intro p hp
      unfold prev at hp
      rw [if_neg (by omega)] at hp
      have : l[i + 1 - 1]? = some l[i] := List.getElem?_eq_getElem hi
      rw [this] at hp
      have := Option.some.inj hp
      omega) (by omega)
    refine ⟨c, Ev.step (fun k => by simp only [spec_l10Code.l0]; exact rfl) (ifp (by omega) (ifp (by omega) ?_)), Ev.step (fun k => by simp only [impl_bitsOf.l0]; exact rfl) (ifp (by omega) (ifp (by omega) (ifp (by omega) (somb (within_eq _ _ _) ?_))))⟩
    · rw [rd_lt hi, wrapS hi hn, shlN (y := l[i]) (n := x) hx (by omega), addP acc hp hlt]
      exact ifp hx0 e1
    · rw [rd_lt hi, wrapS hi hn, hw, shlN (y := l[i]) (n := x) hx (by omega), orP acc hp hlt]
      refine ifp (by simpa using ⟨hx0, hx1⟩) ?_
      by_cases h0 : i = 0
      · exact ifn (by omega) (ifp hx0 e2)
      · rw [if_neg h0] at hx2
        rw [w64 (x := (i : Int) - 1) (by omega) (by omega)]
        exact ifp (by omega) (ifp (by omega) (ifp (by omega) (ifn (by simp only [decide_eq_true_eq] at hx2; omega) (ifp hx0 e2))))

/-- The set's number, and whether it is one: both sides. -/
theorem code_ev (a b o : Int) (cg : List Ld) (hc : cg.length ≤ 140737488355328) (l : List Int) (hn : l.length ≤ 140737488355328) :
    (∃ c : Int, Valid a b o cg ∧ CargoOK a b o cg = true ∧ Ev (fun k => spec_l10Code.f k a b o cg l) (c, true) ∧ Ev (fun k => impl_bitsOf.f k cg l) (c, true)) ∨
    (Ev (fun k => spec_l10Code.f k a b o cg l) (0, false) ∧ (Ev (fun k => impl_bitsOf.f k cg l) (0, false) ∨ (CargoOK a b o cg = false ∧ ∃ c : Int, Ev (fun k => impl_bitsOf.f k cg l) (c, true)))) := by
  have h1 := l10Cargo_ev a b o cg hc
  have hr := rising_ev ((cg.length : Int) - 1) l hn
  obtain ⟨c0, hb⟩ := bits_l0 cg hc l hn 0 (Nat.zero_le _) 0
  rw [show prev l 0 = none from rfl, List.drop_zero] at hb
  have hw : wrap64 ((cg.length : Int) - 1) = (cg.length : Int) - 1 := w64 (by omega) (by omega)
  unfold spec_l10Code.f impl_bitsOf.f
  rw [hw]
  cases hok : CargoOK a b o cg with
  | false =>
    rw [hok] at h1
    refine .inr ⟨Ev.bind h1 (ifn Bool.false_ne_true (Ev.step (fun k => by simp only [spec_l10Code.j0]; exact rfl) (ifp (Eq.refl true) (done rfl)))), ?_⟩
    cases hris : Ris ((cg.length : Int) - 1) none l with
    | false => rw [hris, if_neg Bool.false_ne_true] at hb; exact .inl hb
    | true => rw [hris, if_pos rfl] at hb; exact .inr ⟨rfl, c0, hb⟩
  | true =>
    rw [hok] at h1
    have hv := valid_of hok
    cases hris : Ris ((cg.length : Int) - 1) none l with
    | false =>
      rw [hris] at hr
      rw [hris, if_neg Bool.false_ne_true] at hb
      exact .inr ⟨Ev.bind h1 (ifp rfl (Ev.bind hr (Ev.step (fun k => by simp only [spec_l10Code.j0]; exact rfl) (ifp (show (!false) = true from rfl) (done rfl))))), .inl hb⟩
    | true =>
      rw [hris] at hr
      obtain ⟨c, e1, e2⟩ := code_l0 cg hv.n l hn 0 (Nat.zero_le _) 0 0 (by simpa [prev] using hris) (by decide) (by decide) (by intro p hp; simp [prev] at hp) (fun _ => rfl)
      exact .inl ⟨c, hv, rfl, Ev.bind h1 (ifp rfl (Ev.bind hr (Ev.step (fun k => by simp only [spec_l10Code.j0]; exact rfl) (ifn (by decide) e1)))), e2⟩
end Go.Proofs.Ytkpdddlecibbnaa.PureSets
