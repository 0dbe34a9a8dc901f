/- What slices.DeleteFunc leaves: the elements of which its closure does not say 'true', in their order. No conditions beyond those of the lemmas' own hypotheses. -/
import Derived.Test.YtckhmeadflafaaaGreatPlain
import Derived.Test.YtckhmeadflafaaaGreatXFcx5
namespace Go.Proofs.YtckhmeadflafaaaGreat.PureDelLoose
open Go.RowKit YtckhmeadflafaaaGreat.XFc YtckhmeadflafaaaGreat.Plain YtckhmeadflafaaaGreatW.PrintWords YtckhmeadflafaaaGreatW.PrintLast YtckhmeadflafaaaGreatW.PrintMore
set_option linter.unusedVariables false
theorem index_l0 (g : List (S37)) (L : List (Int)) (hn : L.length ≤ 1048576) (d : Int → Bool) (hd : ∀ x ∈ L, Ev (fun k => impl_StandLoose_1.f g k x) (d x)) : ∀ i, i ≤ L.length → (∀ j, (h : j < L.length) → j < i → d L[j] = false) →
  (∃ t, ∃ h : t < L.length, d L[t] = true ∧ (∀ j, (h : j < L.length) → j < t → d L[j] = false) ∧ Ev (fun k => slices_IndexFunc_StandLoose_1.l0 g k L (L.length : Int) (i : Int)) (t : Int)) ∨ ((∀ x ∈ L, d x = false) ∧ Ev (fun k => slices_IndexFunc_StandLoose_1.l0 g k L (L.length : Int) (i : Int)) (-1)) := by
 refine downTo L.length ?_ ?_
 ·intro h
  right
  refine ⟨fun x hx => ?_, Ev.step (fun k => by simp only [slices_IndexFunc_StandLoose_1.l0]; exact rfl) (ifn (by omega) (done rfl))⟩
  obtain ⟨j, hj, rfl⟩ := List.getElem_of_mem hx
  exact h j hj hj
 ·intro i hi ih h
  have e := hd _ (List.getElem_mem hi)
  cases hb : d L[i] with
  | true =>
   left
   refine ⟨i, hi, hb, h, Ev.step (fun k => by simp only [slices_IndexFunc_StandLoose_1.l0]; exact rfl) (ifp (by omega) (ifp (by omega) (ifp (by omega) ?_)))⟩
   rw [rd_lt hi]
   rw [hb] at e
   exact Ev.bind e (ifp (Eq.refl true) (done rfl))
  | false =>
   have step : ∀ r, Ev (fun k => slices_IndexFunc_StandLoose_1.l0 g k L (L.length : Int) ((i + 1 : Nat) : Int)) r → Ev (fun k => slices_IndexFunc_StandLoose_1.l0 g k L (L.length : Int) (i : Int)) r := by
    intro r hr
    refine Ev.step (fun k => by simp only [slices_IndexFunc_StandLoose_1.l0]; exact rfl) (ifp (by omega) (ifp (by omega) (ifp (by omega) ?_)))
    rw [rd_lt hi, wrapS hi (by omega)]
    rw [hb] at e
    exact Ev.bind e (ifn Bool.false_ne_true hr)
   rcases ih (fun j hj hji => by
    by_cases e : j = i
    ·subst e; exact hb
    ·exact h j hj (by omega)) with ⟨t, ht, h1, h2, h3⟩ | ⟨h1, h2⟩
   ·exact Or.inl ⟨t, ht, h1, h2, step _ h3⟩
   ·exact Or.inr ⟨h1, step _ h2⟩
theorem del_l0 (g : List (S37)) (L : List (Int)) (hn : L.length ≤ 1048576) (d : Int → Bool) (hd : ∀ x ∈ L, Ev (fun k => impl_StandLoose_1.f g k x) (d x)) : ∀ j, j ≤ L.length → ∀ (X : List (Int)) (i : Nat), X.length = L.length → i < j → X.take i = (L.take j).filter (fun x => !d x) → X.drop j = L.drop j → Ev (fun k => slices_DeleteFunc_StandLoose_1.l0 g k X (i : Int) (j : Int)) (L.filter (fun x => !d x)) := by
 refine downTo L.length ?_ ?_
 ·intro X i hX hij ht hdr
  rw [List.take_length] at ht
  refine Ev.step (fun k => by simp only [slices_DeleteFunc_StandLoose_1.l0]; exact rfl) (ifn (by omega) (ifp (by omega) (ifp (by omega) (done ?_))))
  rw [Int.toNat_natCast, ht]
 ·intro j hj ih X i hX hij ht hdr
  have hjX : j < X.length := by omega
  have e0 : X[j] = L[j] := by
   have h1 : (X.drop j)[0]? = (L.drop j)[0]? := by rw [hdr]
   rw [List.getElem?_drop, List.getElem?_drop, Nat.add_zero, List.getElem?_eq_getElem hjX, List.getElem?_eq_getElem hj] at h1
   exact Option.some.inj h1
  have e := hd _ (List.getElem_mem hj)
  have hdr' : X.drop (j + 1) = L.drop (j + 1) := by
   have h1 := congrArg (List.drop 1) hdr
   rw [List.drop_drop, List.drop_drop] at h1
   exact h1
  have htk : L.take (j + 1) = L.take j ++ [L[j]] := take_succ hj
  refine Ev.step (fun k => by simp only [slices_DeleteFunc_StandLoose_1.l0]; exact rfl) (ifp (by omega) (ifp (by omega) ?_))
  rw [rd_lt hjX, e0, wrapS hj (by omega)]
  cases hb : d L[j] with
  | true =>
   rw [hb] at e
   refine Ev.bind e (ifp (Eq.refl true) (ih X i hX (by omega) ?_ hdr'))
   rw [htk, List.filter_append, ht]; simp [hb]
  | false =>
   rw [hb] at e
   refine Ev.bind e (ifn Bool.false_ne_true (ifp (by omega) (ifp (by omega) ?_)))
   rw [wrapS (show i < L.length by omega) (by omega), Int.toNat_natCast]
   refine ih (X.set i L[j]) (i + 1) (by rw [List.length_set, hX]) (by omega) ?_ ?_
   ·rw [take_set_succ _ (by omega), htk, List.filter_append, ht]; simp [hb]
   ·rw [List.drop_set_of_lt (by omega)]; exact hdr'
/-- What is left. -/
theorem del_ev (g : List (S37)) (L : List (Int)) (hn : L.length ≤ 1048576) (d : Int → Bool) (hd : ∀ x ∈ L, Ev (fun k => impl_StandLoose_1.f g k x) (d x)) : Ev (fun k => slices_DeleteFunc_StandLoose_1.f g k L) (L.filter (fun x => !d x)) := by
 unfold slices_DeleteFunc_StandLoose_1.f
 rcases index_l0 g L hn d hd 0 (Nat.zero_le _) (fun j _ h => absurd h (by omega)) with ⟨t, ht, h1, h2, h3⟩ | ⟨h1, h2⟩
 ·have h4 : ¬ (t : Int) = -1 := by omega
  refine Ev.bind (by unfold slices_IndexFunc_StandLoose_1.f; exact h3) (ifn h4 ?_)
  rw [wrapS ht (by omega)]
  refine del_l0 g L hn d hd (t + 1) (by omega) L t rfl (by omega) ?_ rfl
  rw [take_succ ht, List.filter_append]
  have h5 : (L.take t).filter (fun x => !d x) = L.take t := List.filter_eq_self.2 (fun x hx => by
   obtain ⟨j, hj, rfl⟩ := List.getElem_of_mem hx
   rw [List.length_take] at hj
   rw [List.getElem_take, h2 j (by omega) (by omega)]; rfl)
  rw [h5]; simp [h1]
 ·refine Ev.bind (by unfold slices_IndexFunc_StandLoose_1.f; exact h2) (ifp rfl (done ?_))
  exact (List.filter_eq_self.2 (fun x hx => by rw [h1 x hx]; rfl)).symm
end Go.Proofs.YtckhmeadflafaaaGreat.PureDelLoose
