/- Cells that hang together, told by the cells alone and not by their order: how far they reach, and that putting them down makes a body of them. No conditions beyond those of the lemmas' own hypotheses. -/
import Derived.Test.YtckhmeadflafaaaGreatHang
import Derived.Test.YtckhmeadflafaaaGreatLoose
namespace Go.Proofs.YtckhmeadflafaaaGreat.PureReach
open Go.RowKit YtckhmeadflafaaaGreat.XFc YtckhmeadflafaaaGreat.Plain YtckhmeadflafaaaGreat.PureCells YtckhmeadflafaaaGreat.PureBody YtckhmeadflafaaaGreat.PurePut YtckhmeadflafaaaGreat.PureHang YtckhmeadflafaaaGreat.PureLoose YtckhmeadflafaaaGreatW.PrintWords YtckhmeadflafaaaGreatW.PrintLast YtckhmeadflafaaaGreatW.PrintMore
set_option linter.unusedVariables false
inductive Vr (l : List Cl) (a : Cl) : Cl → Prop
 | base : Vr l a a
 | step {y z : Cl} : Vr l a y → z ∈ l → nr z y = true → Vr l a z
def Hgs (l : List Cl) : Prop := ∀ a ∈ l, ∀ x ∈ l, Vr l a x
theorem nr_symm (x y : Cl) : nr x y = nr y x := by
 have e : ∀ u : Int, ab (-u) = ab u := by intro u; unfold ab; split <;> split <;> omega
 unfold nr
 rw [show y.f0 - x.f0 = -(x.f0 - y.f0) from by omega, show y.f1 - x.f1 = -(x.f1 - y.f1) from by omega, e, e]
theorem Vr.trans {l : List Cl} {a b c : Cl} (h : Vr l a b) (k : Vr l b c) : Vr l a c := by
 induction k with
 | base => exact h
 | step _ hz hn ih => exact Vr.step ih hz hn
theorem Vr.mem {l : List Cl} {a b : Cl} (ha : a ∈ l) (h : Vr l a b) : b ∈ l := by
 cases h with
 | base => exact ha
 | step _ hz _ => exact hz
theorem Vr.symm {l : List Cl} {a b : Cl} (ha : a ∈ l) (h : Vr l a b) : Vr l b a := by
 induction h with
 | base => exact Vr.base
 | @step y z h hz hn ih => exact Vr.trans (Vr.step Vr.base (Vr.mem ha h) (by rw [nr_symm]; exact hn)) ih
theorem Vr.congr {l m : List Cl} (h : ∀ x, x ∈ l → x ∈ m) {a b : Cl} (k : Vr l a b) : Vr m a b := by
 induction k with
 | base => exact Vr.base
 | step _ hz hn ih => exact Vr.step ih (h _ hz) hn
theorem Hgs.perm {l m : List Cl} (h : l.Perm m) (k : Hgs l) : Hgs m := fun a ha x hx => Vr.congr (fun y hy => h.mem_iff.1 hy) (k a (h.mem_iff.2 ha) x (h.mem_iff.2 hx))
theorem Hgs.sh (A B : Int) {l : List Cl} (k : Hgs l) : Hgs (l.map (sh A B)) := by
 have key : ∀ a x, Vr l a x → Vr (l.map (PurePut.sh A B)) (PurePut.sh A B a) (PurePut.sh A B x) := by
  intro a x h
  induction h with
  | base => exact Vr.base
  | step _ hz hn ih => exact Vr.step ih (List.mem_map_of_mem hz) (by rw [nr_sh]; exact hn)
 intro a ha x hx
 obtain ⟨a', ha', rfl⟩ := List.mem_map.1 ha
 obtain ⟨x', hx', rfl⟩ := List.mem_map.1 hx
 exact key _ _ (k a' ha' x' hx')
theorem rc_vr {l : List Cl} (h0 : 0 < l.length) {j : Nat} (h : Rc l j) : Vr l (at_ l 0) (at_ l j) := by
 induction h with
 | base => exact Vr.base
 | step _ hj hn ih => exact Vr.step ih (by rw [at_lt hj]; exact List.getElem_mem hj) hn
theorem vr_rc {l : List Cl} (h0 : 0 < l.length) {x : Cl} (h : Vr l (at_ l 0) x) : ∃ j, j < l.length ∧ at_ l j = x ∧ Rc l j := by
 induction h with
 | base => exact ⟨0, h0, rfl, Rc.base⟩
 | step _ hz hn ih =>
  obtain ⟨i, hi, rfl, hr⟩ := ih
  obtain ⟨j, hj, rfl⟩ := List.getElem_of_mem hz
  exact ⟨j, hj, at_lt hj, Rc.step hr hj (by rw [at_lt hj]; exact hn)⟩
theorem hangs_iff {l : List Cl} (h0 : 0 < l.length) (hn : l.length ≤ 1048576) (hs : ∀ x ∈ l, Small x) (hd : l.Nodup) : ∃ r, Ev (fun k => spec_l8Hangs.f k l) r ∧ (r = true ↔ Hgs l) := by
 obtain ⟨r, e1, e2⟩ := hangs_sem l h0 hn hs
 refine ⟨r, e1, e2.trans ⟨fun h a ha x hx => ?_, fun h j hj => ?_⟩⟩
 ·obtain ⟨i, hi, rfl⟩ := List.getElem_of_mem ha
  obtain ⟨j, hj, rfl⟩ := List.getElem_of_mem hx
  have h1 := rc_vr h0 (h i hi)
  have h2 := rc_vr h0 (h j hj)
  rw [at_lt hi] at h1
  rw [at_lt hj] at h2
  exact Vr.trans (Vr.symm (by rw [at_lt h0]; exact List.getElem_mem h0) h1) h2
 ·obtain ⟨j', hj', he, hr⟩ := vr_rc h0 (h (at_ l 0) (by rw [at_lt h0]; exact List.getElem_mem h0) l[j] (List.getElem_mem hj))
  rw [at_lt hj'] at he
  have : j' = j := (List.getElem_inj hd).1 he
  exact this ▸ hr

/-! ### how far they reach -/
theorem holes : ∀ (m : Nat) (l : List Int) (a : Int), (∀ v, a ≤ v → v < a + (m : Int) → v ∈ l) → m ≤ l.length := by
 intro m
 induction m with
 | zero => intro l a h; exact Nat.zero_le _
 | succ m ih =>
  intro l a h
  have hm : a + (m : Int) ∈ l := h _ (by omega) (by omega)
  have h2 := ih (l.erase (a + (m : Int))) a (fun v h1 h2 => (List.mem_erase_of_ne (by omega)).2 (h v h1 (by omega)))
  rw [List.length_erase_of_mem hm] at h2
  have : 0 < l.length := List.length_pos_of_mem hm
  omega
theorem nr_f0 {x y : Cl} (h : nr x y = true) : x.f0 ≤ y.f0 + 1 ∧ x.f1 ≤ y.f1 + 1 := by
 unfold nr ab at h
 rw [decide_eq_true_eq] at h
 split at h <;> split at h <;> omega
theorem between0 {l : List Cl} {a x : Cl} (ha : a ∈ l) (h : Vr l a x) : ∀ v, a.f0 ≤ v → v ≤ x.f0 → ∃ z ∈ l, z.f0 = v := by
 induction h with
 | base => intro v h1 h2; exact ⟨a, ha, by omega⟩
 | @step y z h hz hn ih =>
  intro v h1 h2
  by_cases hv : v ≤ y.f0
  ·exact ih v h1 hv
  ·exact ⟨z, hz, by have := nr_f0 hn; omega⟩
theorem between1 {l : List Cl} {a x : Cl} (ha : a ∈ l) (h : Vr l a x) : ∀ v, a.f1 ≤ v → v ≤ x.f1 → ∃ z ∈ l, z.f1 = v := by
 induction h with
 | base => intro v h1 h2; exact ⟨a, ha, by omega⟩
 | @step y z h hz hn ih =>
  intro v h1 h2
  by_cases hv : v ≤ y.f1
  ·exact ih v h1 hv
  ·exact ⟨z, hz, by have := nr_f0 hn; omega⟩
theorem far0 {l : List Cl} (k : Hgs l) {a x : Cl} (ha : a ∈ l) (hx : x ∈ l) : x.f0 - a.f0 < (l.length : Int) := by
 have h1 := holes (x.f0 - a.f0 + 1).toNat (l.map (·.f0)) a.f0 (fun v h1 h2 => by
  obtain ⟨z, hz, hv⟩ := between0 ha (k a ha x hx) v h1 (by omega)
  exact List.mem_map.2 ⟨z, hz, hv⟩)
 rw [List.length_map] at h1
 have : 0 < l.length := List.length_pos_of_mem ha
 omega
theorem far1 {l : List Cl} (k : Hgs l) {a x : Cl} (ha : a ∈ l) (hx : x ∈ l) : x.f1 - a.f1 < (l.length : Int) := by
 have h1 := holes (x.f1 - a.f1 + 1).toNat (l.map (·.f1)) a.f1 (fun v h1 h2 => by
  obtain ⟨z, hz, hv⟩ := between1 ha (k a ha x hx) v h1 (by omega)
  exact List.mem_map.2 ⟨z, hz, hv⟩)
 rw [List.length_map] at h1
 have : 0 < l.length := List.length_pos_of_mem ha
 omega

/-! ### putting down -/
theorem lw_mem (l : List Cl) : ∀ a, lw a l = a ∨ ∃ x ∈ l, x.f0 = lw a l := by
 induction l with
 | nil => intro a; exact Or.inl rfl
 | cons x l ih =>
  intro a
  show lw (mn a x.f0) l = a ∨ ∃ y ∈ x :: l, y.f0 = lw (mn a x.f0) l
  rcases ih (mn a x.f0) with h | ⟨y, hy, h⟩
  ·rw [h]
   unfold mn
   by_cases hh : a ≤ x.f0
   ·left; split <;> omega
   ·right; refine ⟨x, List.mem_cons_self, ?_⟩; split <;> omega
  ·exact Or.inr ⟨y, List.mem_cons_of_mem _ hy, h⟩
theorem lw_at {l : List Cl} (h0 : 0 < l.length) : ∃ x ∈ l, x.f0 = lw l[0].f0 l := by
 rcases lw_mem l l[0].f0 with h | h
 ·exact ⟨l[0], List.getElem_mem h0, h.symm⟩
 ·exact h
theorem dn_at {l : List Cl} (h0 : 0 < l.length) : ∃ x ∈ l, x.f1 = dn l[0].f1 l := by
 rcases dn_mem l l[0].f1 with h | h
 ·exact ⟨l[0], List.getElem_mem h0, h.symm⟩
 ·exact h
theorem sh_inj {A B : Int} {x y : Cl} (h : sh A B x = sh A B y) : x = y := by
 unfold sh at h
 injection h with h1 h2
 cases x; cases y
 simp only at h1 h2
 congr 1 <;> omega
theorem nodup_map {f : Cl → Cl} (hf : ∀ x y, f x = f y → x = y) {l : List Cl} (h : l.Nodup) : (l.map f).Nodup := by
 unfold List.Nodup at *
 rw [List.pairwise_map]
 exact h.imp fun hne he => hne (hf _ _ he)
theorem bf_of {x y : Cl} (h : Le x y) (hne : x ≠ y) : Bf x y := by
 unfold Bf
 cases hb : bef x y with
 | true => rfl
 | false => exact absurd (le_antisymm h hb) hne
/-- Distinct cells, put down: a body exactly if they hang together. -/
theorem put_body {l : List Cl} (h0 : 0 < l.length) (hn : l.length ≤ 12) (hs : ∀ x ∈ l, Small x) (hd : l.Nodup) : ∃ r, Ev (fun k => spec_l8Hangs.f k l) r ∧ Ev (fun k => impl_IsBody.f k (pd l h0)) r ∧ Ev (fun k => spec_l8Body.f k (pd l h0)) r := by
 obtain ⟨r, e1, e2⟩ := hangs_iff h0 (by omega) hs hd
 have hpl : 0 < (pd l h0).length := by rw [pd_len]; exact h0
 obtain ⟨s, f1, f2, f3, f4⟩ := isBody_full (pd l h0) (by rw [pd_len]; omega)
 obtain ⟨s1, s2⟩ := sortC_spec (l.map (sh (lw l[0].f0 l) (dn l[0].f1 l)))
 have hperm : (pd l h0).Perm (l.map (sh (lw l[0].f0 l) (dn l[0].f1 l))) := s2
 have hA := lw_le l l[0].f0
 have hB := dn_le l l[0].f1
 obtain ⟨xa, hxa, hxae⟩ := lw_at h0
 obtain ⟨xb, hxb, hxbe⟩ := dn_at h0
 have hback : Hgs (pd l h0) → Hgs l := by
  intro h
  have h2 := (Hgs.perm hperm h).sh (-(lw l[0].f0 l)) (-(dn l[0].f1 l))
  have : (l.map (sh (lw l[0].f0 l) (dn l[0].f1 l))).map (sh (-(lw l[0].f0 l)) (-(dn l[0].f1 l))) = l := by
   rw [List.map_map]
   have e : (sh (-(lw l[0].f0 l)) (-(dn l[0].f1 l)) ∘ sh (lw l[0].f0 l) (dn l[0].f1 l)) = id := by
    funext x; cases x; simp only [Function.comp, sh, id]; congr 1 <;> omega
   rw [e, List.map_id]
  rw [this] at h2; exact h2
 have hdp : (pd l h0).Nodup := hperm.nodup_iff.2 (nodup_map (fun x y h => sh_inj h) hd)
 have hst : s = true ↔ r = true := by
  rw [e2]
  constructor
  ·intro h
   have v := f3 h
   obtain ⟨_, _, hbp⟩ := f4.1 h
   obtain ⟨t, g1, g2⟩ := hangs_iff hpl (by rw [pd_len]; omega) (fun x hx => (v.each x hx).small) hdp
   exact hback (g2.1 (ev_fun g1 hbp.2.2.2))
  ·intro h
   rw [f4]
   have hin : ∀ x ∈ pd l h0, InR x := by
    intro x hx
    obtain ⟨y, hy, rfl⟩ := List.mem_map.1 (hperm.mem_iff.1 hx)
    have h1 := hA.2 y hy
    have h2 := hB.2 y hy
    have h3 := far0 h hxa hy
    have h4 := far1 h hxb hy
    exact ⟨⟨by show 0 ≤ y.f0 - _; omega, by show y.f0 - _ ≤ 12; omega⟩, by show 0 ≤ y.f1 - _; omega, by show y.f1 - _ ≤ 12; omega⟩
   have hhp : Hgs (pd l h0) := Hgs.perm hperm.symm (h.sh _ _)
   obtain ⟨t, g1, g2⟩ := hangs_iff hpl (by rw [pd_len]; omega) (fun x hx => (hin x hx).small) hdp
   have ht := g2.2 hhp
   refine ⟨hpl, by rw [pd_len]; exact hn, fun j hj _ => ⟨hin _ (List.getElem_mem hj), fun hj0 => ?_⟩, ?_, ?_, ht ▸ g1⟩
   ·have h1 := List.pairwise_iff_getElem.1 s1 (j - 1) j (by show j - 1 < (pd l h0).length; omega) hj (by omega)
    have h2 : (pd l h0)[j - 1]'(by omega) ≠ (pd l h0)[j] := fun e => absurd ((List.getElem_inj hdp).1 e) (by omega)
    exact bf_of h1 h2
   ·have k1 := lw_le (pd l h0) (pd l h0)[0].f0
    have k2 := lw_ge (pd l h0) 0 (pd l h0)[0].f0 (hin _ (List.getElem_mem hpl)).1.1 (fun x hx => (hin x hx).1.1)
    have k3 := k1.2 (sh (lw l[0].f0 l) (dn l[0].f1 l) xa) (hperm.mem_iff.2 (List.mem_map_of_mem hxa))
    have k4 : (sh (lw l[0].f0 l) (dn l[0].f1 l) xa).f0 = 0 := by show xa.f0 - _ = 0; omega
    omega
   ·have k1 := dn_le (pd l h0) (pd l h0)[0].f1
    have k2 := dn_ge (pd l h0) 0 (pd l h0)[0].f1 (hin _ (List.getElem_mem hpl)).2.1 (fun x hx => (hin x hx).2.1)
    have k3 := k1.2 (sh (lw l[0].f0 l) (dn l[0].f1 l) xb) (hperm.mem_iff.2 (List.mem_map_of_mem hxb))
    have k4 : (sh (lw l[0].f0 l) (dn l[0].f1 l) xb).f1 = 0 := by show xb.f1 - _ = 0; omega
    omega
 have hs' : s = r := by cases s <;> cases r <;> simp_all
 exact ⟨r, e1, hs' ▸ f2, hs' ▸ f1⟩
end Go.Proofs.YtckhmeadflafaaaGreat.PureReach
