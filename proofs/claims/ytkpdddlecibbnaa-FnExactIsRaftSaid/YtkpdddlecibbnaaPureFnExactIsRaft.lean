/- The plain law of FnExactIsRaft: the program's check of a raft is the reference's. No conditions. -/
import Derived.Test.YtkpdddlecibbnaaStatFnExactIsRaft
namespace Go.Proofs.Ytkpdddlecibbnaa.fnExactIsRaft
open Go.RowKit Go.Proofs.Ytkpdddlecibbnaa.XAll Go.Proofs.YtkpdddlecibbnaaW.PrintWords Go.Proofs.YtkpdddlecibbnaaW.PrintLast
theorem same_in (a b c : Int) : impl_within.f a b c = spec_l1In.f a b c := rfl
theorem pure : Pure := by
  intro a b c _ _ _
  have hp : ∀ x, impl_isPlace.f x = spec_l2In.f x := fun x => rfl
  have hb : impl_isBase.f a b = spec_l2Base.f a b := rfl
  have hr : impl_IsRaft.f a b c = spec_IsRaft.f a b c := by
    unfold spec_IsRaft.f spec_l10Raft.f impl_IsRaft.f
    rw [hb]
    cases spec_l2Base.f a b with
    | none => rfl
    | some t =>
      cases t with
      | false => rfl
      | true =>
        rw [same_in]
        cases spec_l1In.f c 1 99 <;> rfl
  have hs : ∃ t, spec_IsRaft.f a b c = some t := by
    unfold spec_IsRaft.f spec_l10Raft.f spec_l2Base.f spec_l2In.f spec_l1In.f
    repeat' (first | split | (simp only [Option.bind_some]; split))
    all_goals simp
    all_goals (repeat' split)
    all_goals simp
  obtain ⟨t, ht⟩ := hs
  unfold laws_FnExactIsRaft.f laws_toRaft.f
  simp only [Option.bind_some, hr, ht]
  simp
end Go.Proofs.Ytkpdddlecibbnaa.fnExactIsRaft
