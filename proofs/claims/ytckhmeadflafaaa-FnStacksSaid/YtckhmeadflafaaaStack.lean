/- One body laid on another one: how far up, where it lies, and what comes out, in the program and in the reference alike. No conditions beyond those of the lemmas' own hypotheses. -/
import Derived.Test.YtckhmeadflafaaaReach
import Derived.Test.YtckhmeadflafaaaGround
import Derived.Test.YtckhmeadflafaaaHas
import Derived.Test.YtckhmeadflafaaaXFsx20
import Derived.Test.YtckhmeadflafaaaXFsx15
namespace Go.Proofs.Ytckhmeadflafaaa.PureStack
open Go.RowKit Go.Proofs.Ytckhmeadflafaaa.XFs Go.Proofs.Ytckhmeadflafaaa.Plain Go.Proofs.Ytckhmeadflafaaa.PureCells Go.Proofs.Ytckhmeadflafaaa.PureBody Go.Proofs.Ytckhmeadflafaaa.PurePut Go.Proofs.Ytckhmeadflafaaa.PureHang Go.Proofs.Ytckhmeadflafaaa.PureLoose Go.Proofs.Ytckhmeadflafaaa.PureReach Go.Proofs.Ytckhmeadflafaaa.PureGround Go.Proofs.Ytckhmeadflafaaa.PureHas Go.Proofs.YtckhmeadflafaaaW.PrintWords Go.Proofs.YtckhmeadflafaaaW.PrintLast Go.Proofs.YtckhmeadflafaaaW.PrintMore
set_option linter.unusedVariables false
/-! ### meeting -/
def ov (d u : Int) (c e : Cl) : Bool := decide (e.f0 = c.f0 + d ∧ e.f1 ≥ c.f1 + u)
theorem meets_l1 (a b : List Cl) (ha : a.length ≤ 12) (hra : ∀ x ∈ a, InR x) (hb : b.length ≤ 12) (hrb : ∀ x ∈ b, InR x) (d u : Int) (hd : -12 ≤ d ∧ d ≤ 12) (hu : 0 ≤ u ∧ u ≤ 100) (i : Nat) (hi : i < b.length) (r : Bool) (ih : Ev (fun k => spec_l8Meets.l0 k a b d u ((i + 1 : Nat) : Int)) r) :
    ∀ j, j ≤ a.length → Ev (fun k => spec_l8Meets.l1 k a b d u (i : Int) (j : Int)) ((a.drop j).any (ov d u b[i]) || r) := by
  refine downTo a.length ?_ ?_
  · refine Ev.step (fun k => by simp only [spec_l8Meets.l1]; exact rfl) (ifn (by omega) ?_)
    rw [List.drop_length, wrapS hi (by omega)]; exact ih
  · intro j hj ih2
    obtain ⟨⟨a1, a2⟩, a3, a4⟩ := hra a[j] (List.getElem_mem hj)
    obtain ⟨⟨b1, b2⟩, b3, b4⟩ := hrb b[i] (List.getElem_mem hi)
    refine Ev.step (fun k => by simp only [spec_l8Meets.l1]; exact rfl) (ifp (by omega) (ifp (by omega) (ifp (by omega) (ifp (by omega) ?_))))
    rw [rdC hj, rdC hi, w64 (by omega) (by omega), w64 (by omega) (by omega), wrapS hj (by omega), drop_cons hj, List.any_cons]
    by_cases h0 : a[j].f0 = b[i].f0 + d
    · by_cases h1 : a[j].f1 ≥ b[i].f1 + u
      · refine ifp h0 (ifp h1 (done ?_))
        rw [show ov d u b[i] a[j] = true from decide_eq_true ⟨h0, h1⟩]; rfl
      · refine ifp h0 (ifn h1 ?_)
        rw [show ov d u b[i] a[j] = false from decide_eq_false (fun h => h1 h.2), Bool.false_or]; exact ih2
    · refine ifn h0 ?_
      rw [show ov d u b[i] a[j] = false from decide_eq_false (fun h => h0 h.1), Bool.false_or]; exact ih2
def meets (a b : List Cl) (d u : Int) : Bool := b.any fun c => a.any (ov d u c)
theorem meets_ev (a b : List Cl) (ha : a.length ≤ 12) (hra : ∀ x ∈ a, InR x) (hb : b.length ≤ 12) (hrb : ∀ x ∈ b, InR x) (d u : Int) (hd : -12 ≤ d ∧ d ≤ 12) (hu : 0 ≤ u ∧ u ≤ 100) : Ev (fun k => spec_l8Meets.f k a b d u) (meets a b d u) := by
  have key : ∀ i, i ≤ b.length → Ev (fun k => spec_l8Meets.l0 k a b d u (i : Int)) ((b.drop i).any fun c => a.any (ov d u c)) := by
    refine downTo b.length ?_ ?_
    · refine Ev.step (fun k => by simp only [spec_l8Meets.l0]; exact rfl) (ifn (by omega) (done ?_))
      rw [List.drop_length]; rfl
    · intro i hi ih
      refine Ev.step (fun k => by simp only [spec_l8Meets.l0]; exact rfl) (ifp (by omega) ?_)
      rw [drop_cons hi, List.any_cons]
      exact meets_l1 a b ha hra hb hrb d u hd hu i hi _ ih 0 (Nat.zero_le _)
  unfold spec_l8Meets.f
  exact key 0 (Nat.zero_le _)
theorem meets_iff (a b : List Cl) (d u : Int) : meets a b d u = true ↔ ∃ c ∈ b, ∃ e ∈ a, e.f0 = c.f0 + d ∧ e.f1 ≥ c.f1 + u := by
  unfold meets ov
  simp only [List.any_eq_true, decide_eq_true_eq]
/-! ### how far up -/
def upI (d : Int) (c : Cl) (a : List Cl) (u : Int) : Int := a.foldl (fun u e => if e.f0 = c.f0 + d then mx u (e.f1 + 1 - c.f1) else u) u
def upO (d : Int) (a b : List Cl) (u : Int) : Int := b.foldl (fun u c => upI d c a u) u
theorem upI_spec (d : Int) (c : Cl) (a : List Cl) : ∀ u, u ≤ upI d c a u ∧ (∀ e ∈ a, e.f0 = c.f0 + d → e.f1 + 1 - c.f1 ≤ upI d c a u) ∧ (upI d c a u = u ∨ ∃ e ∈ a, e.f0 = c.f0 + d ∧ upI d c a u = e.f1 + 1 - c.f1) := by
  induction a with
  | nil => intro u; exact ⟨Int.le_refl _, by simp, Or.inl rfl⟩
  | cons e a ih =>
    intro u
    have e1 : upI d c (e :: a) u = upI d c a (if e.f0 = c.f0 + d then mx u (e.f1 + 1 - c.f1) else u) := rfl
    obtain ⟨h1, h2, h3⟩ := ih (if e.f0 = c.f0 + d then mx u (e.f1 + 1 - c.f1) else u)
    rw [e1]
    by_cases hm : e.f0 = c.f0 + d
    · rw [if_pos hm] at h1 h2 h3 ⊢
      have hx : u ≤ mx u (e.f1 + 1 - c.f1) ∧ e.f1 + 1 - c.f1 ≤ mx u (e.f1 + 1 - c.f1) ∧ (mx u (e.f1 + 1 - c.f1) = u ∨ mx u (e.f1 + 1 - c.f1) = e.f1 + 1 - c.f1) := by unfold mx; split <;> omega
      refine ⟨by omega, fun e' he' hm' => ?_, ?_⟩
      · rcases List.mem_cons.1 he' with rfl | he'
        · omega
        · exact h2 e' he' hm'
      · rcases h3 with h3 | ⟨e', he', k1, k2⟩
        · rcases hx.2.2 with hx' | hx'
          · exact Or.inl (by omega)
          · exact Or.inr ⟨e, List.mem_cons_self, hm, by omega⟩
        · exact Or.inr ⟨e', List.mem_cons_of_mem _ he', k1, k2⟩
    · rw [if_neg hm] at h1 h2 h3 ⊢
      refine ⟨h1, fun e' he' hm' => ?_, ?_⟩
      · rcases List.mem_cons.1 he' with rfl | he'
        · exact absurd hm' hm
        · exact h2 e' he' hm'
      · rcases h3 with h3 | ⟨e', he', k⟩
        · exact Or.inl h3
        · exact Or.inr ⟨e', List.mem_cons_of_mem _ he', k⟩
theorem upO_spec (d : Int) (a b : List Cl) : ∀ u, u ≤ upO d a b u ∧ (∀ c ∈ b, ∀ e ∈ a, e.f0 = c.f0 + d → e.f1 + 1 - c.f1 ≤ upO d a b u) ∧ (upO d a b u = u ∨ ∃ c ∈ b, ∃ e ∈ a, e.f0 = c.f0 + d ∧ upO d a b u = e.f1 + 1 - c.f1) := by
  induction b with
  | nil => intro u; exact ⟨Int.le_refl _, by simp, Or.inl rfl⟩
  | cons c b ih =>
    intro u
    have e1 : upO d a (c :: b) u = upO d a b (upI d c a u) := rfl
    obtain ⟨h1, h2, h3⟩ := ih (upI d c a u)
    obtain ⟨g1, g2, g3⟩ := upI_spec d c a u
    rw [e1]
    refine ⟨by omega, fun c' hc' e he hm => ?_, ?_⟩
    · rcases List.mem_cons.1 hc' with rfl | hc'
      · have := g2 e he hm; omega
      · exact h2 c' hc' e he hm
    · rcases h3 with h3 | ⟨c', hc', k⟩
      · rcases g3 with g3 | ⟨e, he, k1, k2⟩
        · exact Or.inl (by omega)
        · exact Or.inr ⟨c, List.mem_cons_self, e, he, k1, by omega⟩
      · exact Or.inr ⟨c', List.mem_cons_of_mem _ hc', k⟩
theorem upI_bound (d : Int) (c : Cl) (hc : InR c) (a : List Cl) (hra : ∀ x ∈ a, InR x) (u : Int) (hu : 0 ≤ u ∧ u ≤ 13) : 0 ≤ upI d c a u ∧ upI d c a u ≤ 13 := by
  obtain ⟨h1, h2, h3⟩ := upI_spec d c a u
  rcases h3 with h3 | ⟨e, he, _, h3⟩
  · omega
  · have := (hra e he).2; have := hc.2; omega
theorem up_l1 (a b : List Cl) (ha : a.length ≤ 12) (hra : ∀ x ∈ a, InR x) (hrb : ∀ x ∈ b, InR x) (hb : b.length ≤ 12) (d : Int) (hd : -12 ≤ d ∧ d ≤ 12) (i : Nat) (hi : i < b.length) (r : List Cl × Bool × Bool) :
    ∀ j, j ≤ a.length → ∀ u, 0 ≤ u ∧ u ≤ 13 → Ev (fun k => impl_StackBodies.l0 k a b d (upI d b[i] (a.drop j) u) b (b.length : Int) ((i + 1 : Nat) : Int)) r → Ev (fun k => impl_StackBodies.l1 k a b d u b (b.length : Int) (i : Int) a (a.length : Int) (j : Int) b[i].f0 b[i].f1) r := by
  refine downTo a.length ?_ ?_
  · intro u hu ih
    refine Ev.step (fun k => by simp only [impl_StackBodies.l1]; exact rfl) (ifn (by omega) ?_)
    rw [List.drop_length] at ih
    rw [wrapS hi (by omega)]; exact ih
  · intro j hj ih2 u hu ih
    obtain ⟨⟨a1, a2⟩, a3, a4⟩ := hra a[j] (List.getElem_mem hj)
    obtain ⟨⟨b1, b2⟩, b3, b4⟩ := hrb b[i] (List.getElem_mem hi)
    refine Ev.step (fun k => by simp only [impl_StackBodies.l1]; exact rfl) (ifp (by omega) (ifp (by omega) (ifp (by omega) ?_)))
    have w1 : wrap64 (b[i].f0 + d) = b[i].f0 + d := w64 (by omega) (by omega)
    have w2 : wrap64 (wrap64 (a[j].f1 + 1) - b[i].f1) = a[j].f1 + 1 - b[i].f1 := by rw [w64 (x := a[j].f1 + 1) (by omega) (by omega), w64 (by omega) (by omega)]
    rw [rdC hj, w1, w2, wrapS hj (by omega)]
    rw [drop_cons hj] at ih
    by_cases h0 : a[j].f0 = b[i].f0 + d
    · refine ifp h0 (ih2 _ (by unfold mx; split <;> omega) ?_)
      have e : upI d b[i] (a[j] :: a.drop (j + 1)) u = upI d b[i] (a.drop (j + 1)) (mx u (a[j].f1 + 1 - b[i].f1)) := by
        show upI d b[i] (a.drop (j + 1)) (if a[j].f0 = b[i].f0 + d then mx u (a[j].f1 + 1 - b[i].f1) else u) = _
        rw [if_pos h0]
      rw [e] at ih; exact ih
    · refine ifn h0 (ih2 _ hu ?_)
      have e : upI d b[i] (a[j] :: a.drop (j + 1)) u = upI d b[i] (a.drop (j + 1)) u := by
        show upI d b[i] (a.drop (j + 1)) (if a[j].f0 = b[i].f0 + d then mx u (a[j].f1 + 1 - b[i].f1) else u) = _
        rw [if_neg h0]
      rw [e] at ih; exact ih
theorem up_l0 (a b : List Cl) (ha : a.length ≤ 12) (hra : ∀ x ∈ a, InR x) (hrb : ∀ x ∈ b, InR x) (hb : b.length ≤ 12) (d : Int) (hd : -12 ≤ d ∧ d ≤ 12) (r : List Cl × Bool × Bool) :
    ∀ i, i ≤ b.length → ∀ u, 0 ≤ u ∧ u ≤ 13 → Ev (fun k => impl_StackBodies.l2 k a b d (upO d a (b.drop i) u) a 60 (-60) b (b.length : Int) 0) r → Ev (fun k => impl_StackBodies.l0 k a b d u b (b.length : Int) (i : Int)) r := by
  refine downTo b.length ?_ ?_
  · intro u hu ih
    rw [List.drop_length] at ih
    have hcl : slices_Clone.f a = some a := by unfold slices_Clone.f; rw [if_pos (by omega)]
    exact Ev.step (fun k => by simp only [impl_StackBodies.l0]; exact rfl) (ifn (by omega) (somb hcl ih))
  · intro i hi ih2 u hu ih
    have hci := hrb b[i] (List.getElem_mem hi)
    refine Ev.step (fun k => by simp only [impl_StackBodies.l0]; exact rfl) (ifp (by omega) (ifp (by omega) (ifp (by omega) ?_)))
    rw [rdC hi]
    rw [drop_cons hi] at ih
    exact up_l1 a b ha hra hrb hb d hd i hi r 0 (Nat.zero_le _) u hu (ih2 _ (upI_bound d b[i] hci a hra u hu) ih)
theorem up_search (a b : List Cl) (ha : a.length ≤ 12) (hra : ∀ x ∈ a, InR x) (hb : b.length ≤ 12) (hrb : ∀ x ∈ b, InR x) (d : Int) (hd : -12 ≤ d ∧ d ≤ 12) (U : Int) (hU : U ≤ 13) (hno : meets a b d U = false) (hyes : ∀ u, 0 ≤ u → u < U → meets a b d u = true) (r : List Cl × Bool × Bool) (h : Ev (fun k => spec_StackBodies.l1 k a b d U a 100 (-100) 0) r) :
    ∀ n : Nat, ∀ u : Int, 0 ≤ u → u + (n : Int) = U → Ev (fun k => spec_StackBodies.l0 k a b d u) r := by
  intro n
  induction n with
  | zero =>
    intro u hu he
    have : u = U := by omega
    subst this
    refine Ev.step (fun k => by simp only [spec_StackBodies.l0]; exact rfl) (Ev.bind (meets_ev a b ha hra hb hrb d u hd ⟨hu, by omega⟩) ?_)
    rw [hno]
    exact ifn Bool.false_ne_true (somb rfl (ifp (by simp; omega) h))
  | succ n ih =>
    intro u hu he
    refine Ev.step (fun k => by simp only [spec_StackBodies.l0]; exact rfl) (Ev.bind (meets_ev a b ha hra hb hrb d u hd ⟨hu, by omega⟩) ?_)
    rw [hyes u hu (by omega), w64 (by omega) (by omega)]
    exact ifp (Eq.refl true) (ih (u + 1) (by omega) (by omega))
theorem most_eq (a b : Int) : spec_l1Most.f a b = some (mx a b) := by
  unfold spec_l1Most.f mx
  by_cases h : a > b
  · rw [if_pos h]; congr 1; split <;> omega
  · rw [if_neg h]; congr 1; split <;> omega
end Go.Proofs.Ytckhmeadflafaaa.PureStack
