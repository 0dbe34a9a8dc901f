/- Cells that are put down lie in the same range again. No conditions beyond those of the lemmas' own hypotheses. -/
import Derived.Test.YtckhmeadflafaaaPut
import Derived.Test.YtckhmeadflafaaaGround
import Derived.Test.YtckhmeadflafaaaTurn
namespace Go.Proofs.Ytckhmeadflafaaa.PureLaid
open Go.RowKit Go.Proofs.Ytckhmeadflafaaa.XFb Go.Proofs.Ytckhmeadflafaaa.Plain Go.Proofs.Ytckhmeadflafaaa.PureCells Go.Proofs.Ytckhmeadflafaaa.PureBody Go.Proofs.Ytckhmeadflafaaa.PureGround Go.Proofs.Ytckhmeadflafaaa.PurePut Go.Proofs.Ytckhmeadflafaaa.PureTurn Go.Proofs.YtckhmeadflafaaaW.PrintWords Go.Proofs.YtckhmeadflafaaaW.PrintLast Go.Proofs.YtckhmeadflafaaaW.PrintMore
set_option linter.unusedVariables false
theorem lw_le (l : List Cl) : ∀ a, lw a l ≤ a ∧ ∀ x ∈ l, lw a l ≤ x.f0 := by
  induction l with
  | nil => intro a; exact ⟨Int.le_refl _, fun x hx => by cases hx⟩
  | cons y l ih =>
    intro a
    obtain ⟨h1, h2⟩ := ih (mn a y.f0)
    have e : lw a (y :: l) = lw (mn a y.f0) l := rfl
    have m1 : mn a y.f0 ≤ a := by unfold mn; split <;> omega
    have m2 : mn a y.f0 ≤ y.f0 := by unfold mn; split <;> omega
    refine ⟨by rw [e]; omega, fun x hx => ?_⟩
    rw [e]
    rcases List.mem_cons.1 hx with rfl | hx
    · omega
    · exact h2 x hx
theorem dn_le (l : List Cl) : ∀ a, dn a l ≤ a ∧ ∀ x ∈ l, dn a l ≤ x.f1 := by
  induction l with
  | nil => intro a; exact ⟨Int.le_refl _, fun x hx => by cases hx⟩
  | cons y l ih =>
    intro a
    obtain ⟨h1, h2⟩ := ih (mn a y.f1)
    have e : dn a (y :: l) = dn (mn a y.f1) l := rfl
    have m1 : mn a y.f1 ≤ a := by unfold mn; split <;> omega
    have m2 : mn a y.f1 ≤ y.f1 := by unfold mn; split <;> omega
    refine ⟨by rw [e]; omega, fun x hx => ?_⟩
    rw [e]
    rcases List.mem_cons.1 hx with rfl | hx
    · omega
    · exact h2 x hx
theorem lw_ge (l : List Cl) (A : Int) : ∀ a, A ≤ a → (∀ x ∈ l, A ≤ x.f0) → A ≤ lw a l := by
  induction l with
  | nil => intro a h _; exact h
  | cons y l ih =>
    intro a h hs
    have h1 := hs y (by simp)
    refine ih (mn a _) ?_ (fun x hx => hs x (by simp [hx]))
    simp only [mn]; split <;> omega
theorem dn_ge (l : List Cl) (A : Int) : ∀ a, A ≤ a → (∀ x ∈ l, A ≤ x.f1) → A ≤ dn a l := by
  induction l with
  | nil => intro a h _; exact h
  | cons y l ih =>
    intro a h hs
    have h1 := hs y (by simp)
    refine ih (mn a _) ?_ (fun x hx => hs x (by simp [hx]))
    simp only [mn]; split <;> omega
theorem le_f0 {x y : Cl} (h : Le x y) : x.f0 ≤ y.f0 := by
  have h1 : ¬ bef y x = true := by rw [h]; exact Bool.false_ne_true
  rw [bef_iff] at h1
  omega
/-- Cells within a square of thirteen, put down. -/
theorem pd_laid (l : List Cl) (h0 : 0 < l.length) (h1 : l.length ≤ 12) (A B : Int) (hA : ∀ x ∈ l, A ≤ x.f0 ∧ x.f0 ≤ A + 12) (hB : ∀ x ∈ l, B ≤ x.f1 ∧ x.f1 ≤ B + 12) : LaidV (pd l h0) := by
  obtain ⟨s1, s2⟩ := sortC_spec (l.map (sh (lw l[0].f0 l) (dn l[0].f1 l)))
  have hm : ∀ y ∈ pd l h0, ∃ x ∈ l, sh (lw l[0].f0 l) (dn l[0].f1 l) x = y := fun y hy => List.mem_map.1 (s2.mem_iff.1 hy)
  have hx0 := List.getElem_mem h0
  have a1 := lw_ge l A l[0].f0 (hA _ hx0).1 (fun x hx => (hA x hx).1)
  have b1 := dn_ge l B l[0].f1 (hB _ hx0).1 (fun x hx => (hB x hx).1)
  have a2 := (lw_le l l[0].f0).2
  have b2 := (dn_le l l[0].f1).2
  refine ⟨by rw [pd_len]; exact h0, by rw [pd_len]; exact h1, ?_, ?_, ?_⟩
  · intro y hy
    obtain ⟨x, hx, rfl⟩ := hm y hy
    have c1 := hA x hx
    have c2 := hB x hx
    have c3 := a2 x hx
    have c4 := b2 x hx
    refine ⟨⟨?_, ?_⟩, ?_, ?_⟩ <;> simp only [sh] <;> omega
  · intro i d h
    by_cases hd : d = 0
    · subst hd; exact Int.le_refl _
    · have := (List.pairwise_iff_getElem.1 s1) i (i + d) (by unfold pd at h; omega) h (by omega)
      exact le_f0 this
  · rcases dn_mem l l[0].f1 with h | ⟨x, hx, h⟩
    · refine ⟨sh (lw l[0].f0 l) (dn l[0].f1 l) l[0], s2.mem_iff.2 (List.mem_map.2 ⟨_, hx0, rfl⟩), ?_⟩
      simp only [sh]; omega
    · refine ⟨sh (lw l[0].f0 l) (dn l[0].f1 l) x, s2.mem_iff.2 (List.mem_map.2 ⟨_, hx, rfl⟩), ?_⟩
      simp only [sh]; omega
theorem LaidV.sm {l : List Cl} (v : LaidV l) : ∀ x ∈ l, Sm x := fun x hx => InR.sm (v.each x hx)
theorem turn_laid {s : Int} (hs : Side s) {l : List Cl} (v : LaidV l) : LaidV (pd (l.map (tb s)) (tb_pos s v.n0)) := by
  have hn : (l.map (tb s)).length ≤ 12 := by rw [List.length_map]; exact v.n1
  rcases hs with rfl | rfl
  · refine pd_laid _ _ hn 0 (-12) ?_ ?_
    · intro x hx
      obtain ⟨y, hy, rfl⟩ := List.mem_map.1 hx
      obtain ⟨⟨a, b⟩, c, d⟩ := v.each y hy
      simp only [tb]; omega
    · intro x hx
      obtain ⟨y, hy, rfl⟩ := List.mem_map.1 hx
      obtain ⟨⟨a, b⟩, c, d⟩ := v.each y hy
      simp only [tb]; omega
  · refine pd_laid _ _ hn (-12) 0 ?_ ?_
    · intro x hx
      obtain ⟨y, hy, rfl⟩ := List.mem_map.1 hx
      obtain ⟨⟨a, b⟩, c, d⟩ := v.each y hy
      simp only [tb]; omega
    · intro x hx
      obtain ⟨y, hy, rfl⟩ := List.mem_map.1 hx
      obtain ⟨⟨a, b⟩, c, d⟩ := v.each y hy
      simp only [tb]; omega
end Go.Proofs.Ytckhmeadflafaaa.PureLaid
