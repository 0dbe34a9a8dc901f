/- The sets of places: by the bits of a number, and by their sizes in order. No conditions beyond those of the lemmas' own hypotheses. -/
import Derived.Test.YtdbccenmfdjkjaaChoices12
import Derived.Test.YtdbccenmfdjkjaaXZgx13
namespace Go.Proofs.Ytdbccenmfdjkjaa.PureSubsets
open Go.RowKit Go.Proofs.Ytdbccenmfdjkjaa.XZg Go.Proofs.Ytdbccenmfdjkjaa.Plain Go.Proofs.Ytdbccenmfdjkjaa.PureChoices Go.Proofs.YtdbccenmfdjkjaaW.PrintWords Go.Proofs.YtdbccenmfdjkjaaW.PrintLast Go.Proofs.YtdbccenmfdjkjaaW.PrintMore
set_option linter.unusedVariables false
theorem C_mem : ∀ d i t, ∀ x ∈ C i d t, x.length = t ∧ ∀ y ∈ x, (i : Int) ≤ y ∧ y < ((i + d : Nat) : Int) := by
  intro d
  induction d with
  | zero =>
    intro i t x hx
    cases t with
    | zero => rw [show C i 0 0 = [[]] from rfl, List.mem_singleton] at hx; subst hx; exact ⟨rfl, fun y hy => by cases hy⟩
    | succ t => cases hx
  | succ d ih =>
    intro i t x hx
    cases t with
    | zero => rw [show C i (d + 1) 0 = [[]] from rfl, List.mem_singleton] at hx; subst hx; exact ⟨rfl, fun y hy => by cases hy⟩
    | succ t =>
      rw [show C i (d + 1) (t + 1) = (C (i + 1) d t).map (fun x => (i : Int) :: x) ++ C (i + 1) d (t + 1) from rfl, List.mem_append, List.mem_map] at hx
      rcases hx with ⟨z, hz, rfl⟩ | hx
      · obtain ⟨h1, h2⟩ := ih (i + 1) t z hz
        refine ⟨by rw [List.length_cons, h1], fun y hy => ?_⟩
        rcases List.mem_cons.1 hy with rfl | hy
        · omega
        · have := h2 y hy; omega
      · obtain ⟨h1, h2⟩ := ih (i + 1) (t + 1) x hx
        exact ⟨h1, fun y hy => by have := h2 y hy; omega⟩
theorem C_sorted : ∀ d i t, (C i d t).Pairwise fun x y => lxG x y = true := by
  intro d
  induction d with
  | zero =>
    intro i t
    cases t with
    | zero => exact List.pairwise_singleton _ _
    | succ t => exact List.Pairwise.nil
  | succ d ih =>
    intro i t
    cases t with
    | zero => exact List.pairwise_singleton _ _
    | succ t =>
      show ((C (i + 1) d t).map (fun x => (i : Int) :: x) ++ C (i + 1) d (t + 1)).Pairwise _
      rw [List.pairwise_append, List.pairwise_map]
      refine ⟨(ih (i + 1) t).imp (fun h => by simp [lxG, h]), ih (i + 1) (t + 1), fun x hx y hy => ?_⟩
      obtain ⟨z, hz, rfl⟩ := List.mem_map.1 hx
      obtain ⟨h1, h2⟩ := C_mem d (i + 1) (t + 1) y hy
      cases y with
      | nil => simp at h1
      | cons b y =>
        have := (h2 b (List.mem_cons_self ..)).1
        simp only [lxG, Bool.or_eq_true, decide_eq_true_eq]
        exact Or.inl (by omega)
/-- All sets of places, the small ones first. -/
def All (i d : Nat) : List (List Int) := (List.range (d + 1)).flatMap (C i d)
theorem flat_split {α β : Type} (f g : α → List β) : ∀ L : List α, (L.flatMap fun x => f x ++ g x).Perm (L.flatMap f ++ L.flatMap g) := by
  intro L
  induction L with
  | nil => exact List.Perm.refl _
  | cons x L ih =>
    rw [List.flatMap_cons, List.flatMap_cons, List.flatMap_cons, List.append_assoc, List.append_assoc]
    refine List.Perm.append_left _ ?_
    refine (List.Perm.append_left _ ih).trans ?_
    rw [← List.append_assoc, ← List.append_assoc]
    exact List.Perm.append_right _ List.perm_append_comm
theorem map_flat {α β γ : Type} (f : α → List β) (g : β → γ) : ∀ L : List α, L.flatMap (fun x => (f x).map g) = (L.flatMap f).map g := by
  intro L
  induction L with
  | nil => rfl
  | cons x L ih => rw [List.flatMap_cons, List.flatMap_cons, List.map_append, ih]
theorem All_succ (i d : Nat) : (All i (d + 1)).Perm (All (i + 1) d ++ (All (i + 1) d).map fun x => (i : Int) :: x) := by
  unfold All
  have e1 : (List.range (d + 1 + 1)).flatMap (C i (d + 1)) = [[]] ++ (List.range (d + 1)).flatMap (fun t => (C (i + 1) d t).map (fun x => (i : Int) :: x) ++ C (i + 1) d (t + 1)) := by
    rw [List.range_succ_eq_map, List.flatMap_cons, List.flatMap_map]
    rfl
  rw [e1]
  refine (List.Perm.append_left _ (flat_split _ _ _)).trans ?_
  rw [map_flat]
  have e2 : (List.range (d + 1)).flatMap (C (i + 1) d) = [[]] ++ (List.range (d + 1)).flatMap (fun t => C (i + 1) d (t + 1)) := by
    have h1 : (List.range (d + 1 + 1)).flatMap (C (i + 1) d) = (List.range (d + 1)).flatMap (C (i + 1) d) := by
      rw [List.range_succ (n := d + 1), List.flatMap_append, List.flatMap_singleton, C_none (i + 1) d (d + 1) (by omega), List.append_nil]
    have h2 : (List.range (d + 1 + 1)).flatMap (C (i + 1) d) = [[]] ++ (List.range (d + 1)).flatMap (fun t => C (i + 1) d (t + 1)) := by
      rw [List.range_succ_eq_map, List.flatMap_cons, List.flatMap_map]
      cases d <;> rfl
    rw [← h1, h2]
  have e3 : ∀ A B D : List (List Int), (A ++ (B ++ D)).Perm ((A ++ D) ++ B) := fun A B D => by
    rw [List.append_assoc]
    exact List.Perm.append_left _ List.perm_append_comm
  refine (e3 _ _ _).trans ?_
  rw [← e2]
/-- The set of places of a number's bits. -/
def grp : Nat → Nat → Nat → List Int
  | _, 0, _ => []
  | i, d + 1, code => if code % 2 = 1 then (i : Int) :: grp (i + 1) d (code / 2) else grp (i + 1) d (code / 2)
theorem range_split (m : Nat) : (List.range (2 * m)).Perm ((List.range m).map (fun c => 2 * c) ++ (List.range m).map fun c => 2 * c + 1) := by
  induction m with
  | zero => exact List.Perm.refl _
  | succ m ih =>
    rw [show 2 * (m + 1) = 2 * m + 1 + 1 from by omega, List.range_succ, List.range_succ, List.range_succ, List.map_append, List.map_append]
    refine (List.Perm.append_right _ (List.Perm.append_right _ ih)).trans ?_
    simp only [List.append_assoc]
    refine List.Perm.append_left _ ?_
    simp only [List.map_cons, List.map_nil]
    rw [← List.append_assoc, ← List.append_assoc]
    exact List.Perm.append_right _ List.perm_append_comm
theorem grp_all : ∀ d i, ((List.range (2 ^ d)).map (grp i d)).Perm (All i d) := by
  intro d
  induction d with
  | zero => intro i; exact List.Perm.refl _
  | succ d ih =>
    intro i
    refine List.Perm.trans ?_ (All_succ i d).symm
    rw [show 2 ^ (d + 1) = 2 * 2 ^ d from by rw [Nat.pow_succ]; omega]
    refine ((range_split (2 ^ d)).map (grp i (d + 1))).trans ?_
    rw [List.map_append, List.map_map, List.map_map]
    refine List.Perm.append ?_ ?_
    · have : (grp i (d + 1) ∘ fun c => 2 * c) = grp (i + 1) d := by
        funext c
        show (if 2 * c % 2 = 1 then _ else grp (i + 1) d (2 * c / 2)) = _
        rw [if_neg (by omega), show 2 * c / 2 = c from by omega]
      rw [this]
      exact ih (i + 1)
    · have : (grp i (d + 1) ∘ fun c => 2 * c + 1) = (fun x => (i : Int) :: x) ∘ grp (i + 1) d := by
        funext c
        show (if (2 * c + 1) % 2 = 1 then (i : Int) :: grp (i + 1) d ((2 * c + 1) / 2) else _) = _
        rw [if_pos (by omega), show (2 * c + 1) / 2 = c from by omega]; rfl
      rw [this, ← List.map_map]
      exact (ih (i + 1)).map _
theorem All_sorted (i d : Nat) : (All i d).Pairwise fun x y => ltG y x = false := by
  have key : (All i d).Pairwise fun x y => ltG x y = true := by
    unfold All
    rw [List.pairwise_flatMap]
    refine ⟨fun t _ => ?_, ?_⟩
    · refine (List.Pairwise.and_mem.1 (C_sorted d i t)).imp (fun h => ?_)
      obtain ⟨h1, h2, h3⟩ := h
      have l1 := (C_mem d i t _ h1).1
      have l2 := (C_mem d i t _ h2).1
      simp only [ltG, Bool.or_eq_true, Bool.and_eq_true, decide_eq_true_eq]
      exact Or.inr ⟨by omega, h3⟩
    · refine List.Pairwise.imp (fun {t u} h x hx y hy => ?_) List.pairwise_lt_range
      have l1 := (C_mem d i t _ hx).1
      have l2 := (C_mem d i u _ hy).1
      simp only [ltG, Bool.or_eq_true, decide_eq_true_eq]
      exact Or.inl (by omega)
  refine key.imp (fun {x y} h => ?_)
  cases q : ltG y x with
  | false => rfl
  | true => have := ltG_trans _ _ _ h q; rw [ltG_irrefl] at this; cases this
end Go.Proofs.Ytdbccenmfdjkjaa.PureSubsets
