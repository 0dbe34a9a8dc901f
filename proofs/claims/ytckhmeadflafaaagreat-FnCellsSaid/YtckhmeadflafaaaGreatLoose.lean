/- A body without one of its cells: laid anew it is a body exactly if its cells hang together. No conditions beyond those of the lemmas' own hypotheses. -/
import Derived.Test.YtckhmeadflafaaaGreatHang
import Derived.Test.YtckhmeadflafaaaGreatXFcx4
import Derived.Test.YtckhmeadflafaaaGreatXFcx5
namespace Go.Proofs.YtckhmeadflafaaaGreat.PureLoose
open Go.RowKit YtckhmeadflafaaaGreat.XFc YtckhmeadflafaaaGreat.Plain YtckhmeadflafaaaGreat.PureCells YtckhmeadflafaaaGreat.PureBody YtckhmeadflafaaaGreat.PurePut YtckhmeadflafaaaGreat.PureHang YtckhmeadflafaaaGreatW.PrintWords YtckhmeadflafaaaGreatW.PrintLast YtckhmeadflafaaaGreatW.PrintMore
set_option linter.unusedVariables false
def Bf (x y : Cl) : Prop := bef x y = true
theorem Bf.trans {x y z : Cl} (h : Bf x y) (k : Bf y z) : Bf x z := by
 unfold Bf at *; rw [bef_iff] at *; omega
theorem pairs {l : List Cl} (h : ∀ j, (h : j < l.length) → 0 < j → bef l[j - 1] l[j] = true) : l.Pairwise Bf := by
 rw [List.pairwise_iff_getElem]
 have key : ∀ d i, (hh : i + (d + 1) < l.length) → Bf (l[i]'(by omega)) l[i + (d + 1)] := by
  intro d
  induction d with
  | zero => intro i hh; exact h (i + 1) hh (by omega)
  | succ d ih =>
   intro i hh
   have h2 := h (i + (d + 1 + 1)) hh (by omega)
   have e : l[i + (d + 1 + 1) - 1]'(by omega) = l[i + (d + 1)]'(by omega) := by congr 1
   rw [e] at h2
   exact Bf.trans (ih i (by omega)) h2
 intro i j hi hj hij
 obtain ⟨d, rfl⟩ : ∃ d, j = i + (d + 1) := ⟨j - i - 1, by omega⟩
 exact key d i hj
theorem sort_id {l : List Cl} (h : l.Pairwise Bf) : sortC l = l := by
 obtain ⟨s1, s2⟩ := sortC_spec l
 exact s2.eq_of_pairwise (fun a b _ _ h k => le_antisymm h k) s1 (h.imp fun h => le_of_bef h)
theorem pairs_sh (a b : Int) {l : List Cl} (h : l.Pairwise Bf) : (l.map (sh a b)).Pairwise Bf := by
 rw [List.pairwise_map]
 refine h.imp fun {x y} h => ?_
 unfold Bf at *; rw [bef_iff] at *; unfold sh; simp only; omega
theorem lw_le (l : List Cl) : ∀ a, lw a l ≤ a ∧ ∀ x ∈ l, lw a l ≤ x.f0 := by
 induction l with
 | nil => intro a; exact ⟨Int.le_refl _, by simp⟩
 | cons y l ih =>
  intro a
  have e : lw a (y :: l) = lw (mn a y.f0) l := rfl
  obtain ⟨h1, h2⟩ := ih (mn a y.f0)
  have h3 : mn a y.f0 ≤ a ∧ mn a y.f0 ≤ y.f0 := by unfold mn; split <;> omega
  rw [e]
  refine ⟨by omega, fun x hx => ?_⟩
  rcases List.mem_cons.1 hx with rfl | hx
  ·omega
  ·exact h2 x hx
theorem dn_le (l : List Cl) : ∀ a, dn a l ≤ a ∧ ∀ x ∈ l, dn a l ≤ x.f1 := by
 induction l with
 | nil => intro a; exact ⟨Int.le_refl _, by simp⟩
 | cons y l ih =>
  intro a
  have e : dn a (y :: l) = dn (mn a y.f1) l := rfl
  obtain ⟨h1, h2⟩ := ih (mn a y.f1)
  have h3 : mn a y.f1 ≤ a ∧ mn a y.f1 ≤ y.f1 := by unfold mn; split <;> omega
  rw [e]
  refine ⟨by omega, fun x hx => ?_⟩
  rcases List.mem_cons.1 hx with rfl | hx
  ·omega
  ·exact h2 x hx
theorem lw_ge (l : List Cl) (c : Int) : ∀ a, c ≤ a → (∀ x ∈ l, c ≤ x.f0) → c ≤ lw a l := by
 induction l with
 | nil => intro a h _; exact h
 | cons y l ih => intro a h hx; exact ih (mn a y.f0) (by have := hx y List.mem_cons_self; unfold mn; split <;> omega) (fun x h => hx x (List.mem_cons_of_mem _ h))
theorem dn_ge (l : List Cl) (c : Int) : ∀ a, c ≤ a → (∀ x ∈ l, c ≤ x.f1) → c ≤ dn a l := by
 induction l with
 | nil => intro a h _; exact h
 | cons y l ih => intro a h hx; exact ih (mn a y.f1) (by have := hx y List.mem_cons_self; unfold mn; split <;> omega) (fun x h => hx x (List.mem_cons_of_mem _ h))
theorem mn_sub (a b c : Int) : mn (a - c) (b - c) = mn a b - c := by unfold mn; split <;> split <;> omega
theorem lw_sh (A B : Int) (l : List Cl) : ∀ a, lw (a - A) (l.map (sh A B)) = lw a l - A := by
 induction l with
 | nil => intro a; rfl
 | cons y l ih =>
  intro a
  show lw (mn (a - A) (y.f0 - A)) (l.map (sh A B)) = lw (mn a y.f0) l - A
  rw [mn_sub, ih]
theorem dn_sh (A B : Int) (l : List Cl) : ∀ a, dn (a - B) (l.map (sh A B)) = dn a l - B := by
 induction l with
 | nil => intro a; rfl
 | cons y l ih =>
  intro a
  show dn (mn (a - B) (y.f1 - B)) (l.map (sh A B)) = dn (mn a y.f1) l - B
  rw [mn_sub, ih]
theorem pd_sorted {l : List Cl} (h0 : 0 < l.length) (h : l.Pairwise Bf) : pd l h0 = l.map (sh (lw l[0].f0 l) (dn l[0].f1 l)) := by
 unfold pd; exact sort_id (pairs_sh _ _ h)
/-- Sorted cells within the grid, laid anew: a body exactly if they hang together. -/
theorem laid_body {l : List Cl} (h0 : 0 < l.length) (hn : l.length ≤ 12) (hb : l.Pairwise Bf) (hr : ∀ x ∈ l, InR x) : ∃ r, Ev (fun k => spec_l8Hangs.f k l) r ∧ Ev (fun k => impl_IsBody.f k (pd l h0)) r ∧ Ev (fun k => spec_l8Body.f k (pd l h0)) r := by
 have hs : ∀ x ∈ l, Small x := fun x hx => (hr x hx).small
 obtain ⟨r, e1, _⟩ := hangs_ev l h0 (by omega) hs
 have hpe := pd_sorted h0 hb
 have hpl : 0 < (pd l h0).length := by rw [pd_len]; exact h0
 obtain ⟨s, f1, f2, f3, f4⟩ := isBody_full (pd l h0) (by rw [pd_len]; omega)
 have hA := lw_le l l[0].f0
 have hB := dn_le l l[0].f1
 have hA0 := lw_ge l 0 l[0].f0 ((hr _ (List.getElem_mem h0)).1.1) (fun x hx => (hr x hx).1.1)
 have hB0 := dn_ge l 0 l[0].f1 ((hr _ (List.getElem_mem h0)).2.1) (fun x hx => (hr x hx).2.1)
 have hin : ∀ x ∈ pd l h0, InR x := by
  rw [hpe]
  intro x hx
  obtain ⟨y, hy, rfl⟩ := List.mem_map.1 hx
  have h1 := hA.2 y hy
  have h2 := hB.2 y hy
  obtain ⟨⟨k1, k2⟩, k3, k4⟩ := hr y hy
  exact ⟨⟨by show 0 ≤ y.f0 - _; omega, by show y.f0 - _ ≤ 12; omega⟩, by show 0 ≤ y.f1 - _; omega, by show y.f1 - _ ≤ 12; omega⟩
 have hs2 : ∀ x ∈ pd l h0, Small x := fun x hx => (hin x hx).small
 obtain ⟨t, g1, _⟩ := hangs_ev (pd l h0) hpl (by rw [pd_len]; omega) hs2
 have hrt : r = t := hangs_shift _ _ h0 (by omega) hs (by rw [← hpe]; exact hs2) e1 (by rw [← hpe]; exact g1)
 have hst : s = true ↔ t = true := by
  rw [f4]
  constructor
  ·rintro ⟨_, _, hbp⟩
   exact ev_fun g1 hbp.2.2.2
  ·intro ht
   refine ⟨hpl, by rw [pd_len]; exact hn, fun j hj _ => ⟨hin _ (List.getElem_mem hj), fun hj0 => ?_⟩, ?_, ?_, ht ▸ g1⟩
   ·have hp : (pd l h0).Pairwise Bf := by rw [hpe]; exact pairs_sh _ _ hb
    exact List.pairwise_iff_getElem.1 hp (j - 1) j (by omega) hj (by omega)
   ·have e := lw_sh (lw l[0].f0 l) (dn l[0].f1 l) l l[0].f0
    have e0 : (pd l h0)[0].f0 = l[0].f0 - lw l[0].f0 l := by simp only [hpe, List.getElem_map]; rfl
    rw [e0, hpe, e]; omega
   ·have e := dn_sh (lw l[0].f0 l) (dn l[0].f1 l) l l[0].f1
    have e0 : (pd l h0)[0].f1 = l[0].f1 - dn l[0].f1 l := by simp only [hpe, List.getElem_map]; rfl
    rw [e0, hpe, e]; omega
 have hs' : s = r := by rw [hrt]; cases s <;> cases t <;> simp_all
 exact ⟨r, e1, hs' ▸ f2, hs' ▸ f1⟩
/-- Without a cell, in the program and in the reference. -/
theorem without_ev {l : List Cl} (v : BodyV l) (i : Nat) (hi : i < l.length) : ∃ (b : Bool) (q p : List Cl), Ev (fun k => spec_l8Without.f k l (i : Int)) (q, b) ∧ Ev (fun k => impl_without.f k l (i : Int)) p ∧ Ev (fun k => impl_IsBody.f k p) b ∧ (b = true → p = q ∧ Ev (fun k => spec_l8Body.f k p) true) ∧ p.length + 1 = l.length := by
 have n1 := v.n1
 have hel : (l.eraseIdx i).length = l.length - 1 := List.length_eraseIdx_of_lt hi
 have hsp : ∀ r, Ev (fun k => if ((l.eraseIdx i).length : Int) = 0 then (some ((([] : List Cl)), false)) else ((spec_l8Hangs.f k (l.eraseIdx i)).bind fun t228 => (if t228 = true then ((spec_l8Down.f k (l.eraseIdx i)).bind fun t229 => (some (t229, true))) else (some ((([] : List Cl)), false))))) r → Ev (fun k => spec_l8Without.f k l (i : Int)) r := by
  intro r h
  unfold spec_l8Without.f
  have hw : wrap64 ((i : Int) + 1) = ((i + 1 : Nat) : Int) := wrapS hi (by omega)
  refine somb rfl (ifp (by omega) (ifp (by omega) (somb rfl (ifp (by simp [List.length_take]; omega) (somb rfl ?_)))))
  rw [hw]
  refine ifp (by omega) (ifp (by omega) (somb rfl (ifp (by simp [List.length_take, List.length_drop]; omega) (somb rfl ?_))))
  rw [Int.toNat_natCast, Int.toNat_natCast, List.nil_append, ← List.eraseIdx_eq_take_drop_succ]
  exact h
 have him : ∀ p, Ev (fun k => impl_put.f k (l.eraseIdx i)) p → Ev (fun k => impl_without.f k l (i : Int)) p := by
  intro p h
  unfold impl_without.f
  refine ifp ⟨by omega, by omega, by omega⟩ ?_
  rw [Int.toNat_natCast]; exact h
 by_cases hz : l.length = 1
 ·have he : l.eraseIdx i = [] := List.eq_nil_of_length_eq_zero (by omega)
  refine ⟨false, [], [], hsp _ (ifp (by rw [he]; rfl) (done rfl)), him _ ?_, ?_, fun h => absurd h Bool.false_ne_true, by simp [hz]⟩
  ·rw [he]; unfold impl_put.f; exact ifp rfl (done rfl)
  ·unfold impl_IsBody.f
   exact somb (within_eq _ _ _) (ifn (by simp) (done rfl))
 ·have h0 : 0 < (l.eraseIdx i).length := by omega
  have hsub := List.eraseIdx_sublist l i
  have hr : ∀ x ∈ l.eraseIdx i, InR x := fun x hx => v.each x (hsub.subset hx)
  have hb : (l.eraseIdx i).Pairwise Bf := (pairs v.sorted).sublist hsub
  have hs : ∀ x ∈ l.eraseIdx i, Small x := fun x hx => (hr x hx).small
  obtain ⟨r, e1, e2, e3⟩ := laid_body h0 (by omega) hb hr
  have hp := put_ev (l.eraseIdx i) h0 (by omega) hs
  have hd := l8Down_ev (l.eraseIdx i) h0 (by omega) hs
  cases r with
  | true => exact ⟨true, _, _, hsp _ (ifn (by omega) (Ev.bind e1 (ifp (Eq.refl true) (Ev.bind hd (done rfl))))), him _ hp, e2, fun _ => ⟨rfl, e3⟩, by rw [pd_len]; omega⟩
  | false => exact ⟨false, _, _, hsp _ (ifn (by omega) (Ev.bind e1 (ifn Bool.false_ne_true (done rfl)))), him _ hp, e2, fun h => absurd h Bool.false_ne_true, by rw [pd_len]; omega⟩
end Go.Proofs.YtckhmeadflafaaaGreat.PureLoose
