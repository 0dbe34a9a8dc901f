/- PutDown of cells that lie near. No conditions beyond those of the lemmas' own hypotheses. -/
import Derived.Test.YtckhmeadflafaaaGreatPut
import Derived.Test.YtckhmeadflafaaaGreatXFcx8
namespace Go.Proofs.YtckhmeadflafaaaGreat.PurePutW
open Go.RowKit YtckhmeadflafaaaGreat.XFc YtckhmeadflafaaaGreat.Plain YtckhmeadflafaaaGreat.PureCells YtckhmeadflafaaaGreat.PureBody YtckhmeadflafaaaGreat.PurePut YtckhmeadflafaaaGreatW.PrintWords YtckhmeadflafaaaGreatW.PrintLast YtckhmeadflafaaaGreatW.PrintMore
set_option linter.unusedVariables false
def Near (x : Cl) : Prop := (-60 ≤ x.f0 ∧ x.f0 ≤ 60) ∧ -60 ≤ x.f1 ∧ x.f1 ≤ 60
theorem putdown_ev {l : List Cl} (h0 : 0 < l.length) (hn : l.length ≤ 12) (hs : ∀ x ∈ l, Near x) {b : Bool} (hb : Ev (fun k => impl_IsBody.f k (pd l h0)) b) : Ev (fun k => impl_PutDown.f k l) (if b then pd l h0 else [], b) := by
 have f2 := put_ev l h0 (by omega) (fun x hx => by obtain ⟨⟨h1, h2⟩, h3, h4⟩ := hs x hx; exact ⟨⟨by omega, by omega⟩, by omega, by omega⟩)
 have key : ∀ i, i ≤ l.length → Ev (fun k => impl_PutDown.l0 k l l (l.length : Int) (i : Int)) (if b then pd l h0 else [], b) := by
  refine downTo l.length ?_ ?_
  ·refine Ev.step (fun k => by simp only [impl_PutDown.l0]; exact rfl) (ifn (by omega) (Ev.bind f2 (Ev.bind hb ?_)))
   cases b with
   | true => exact ifp (Eq.refl true) (done rfl)
   | false => exact ifn Bool.false_ne_true (done rfl)
  ·intro i hi ih
   have hw : wrap64 ((i : Int) + 1) = ((i + 1 : Nat) : Int) := wrapS hi (by omega)
   obtain ⟨c0, c1⟩ := hs l[i] (List.getElem_mem hi)
   refine Ev.step (fun k => by simp only [impl_PutDown.l0]; exact rfl) (ifp (by omega) (ifp (by omega) (ifp (by omega) ?_)))
   rw [rdC hi, hw]
   exact somb (within_eq _ _ _) (ifp (decide_eq_true c0) (somb (within_eq _ _ _) (ifp (decide_eq_true c1) ih)))
 unfold impl_PutDown.f
 exact somb (within_eq _ _ _) (ifp (decide_eq_true (by omega)) (key 0 (Nat.zero_le _)))
theorem putdown_nil : Ev (fun k => impl_PutDown.f k []) ([], false) := by
 unfold impl_PutDown.f
 exact somb (within_eq _ _ _) (ifn (by simp) (done rfl))
end Go.Proofs.YtckhmeadflafaaaGreat.PurePutW
