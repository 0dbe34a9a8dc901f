/- Cells put down: neither their order nor their place counts, and a turned or mirrored body is a body. No conditions beyond those of the lemmas' own hypotheses. -/
import Derived.Test.YtckhmeadflafaaaGreatReach
namespace Go.Proofs.YtckhmeadflafaaaGreat.PureShape
open Go.RowKit YtckhmeadflafaaaGreat.XFc YtckhmeadflafaaaGreat.Plain YtckhmeadflafaaaGreat.PureCells YtckhmeadflafaaaGreat.PureBody YtckhmeadflafaaaGreat.PurePut YtckhmeadflafaaaGreat.PureHang YtckhmeadflafaaaGreat.PureLoose YtckhmeadflafaaaGreat.PureReach YtckhmeadflafaaaGreatW.PrintWords YtckhmeadflafaaaGreatW.PrintLast YtckhmeadflafaaaGreatW.PrintMore
set_option linter.unusedVariables false
theorem pd_spec (l : List Cl) (h0 : 0 < l.length) : (pd l h0).Pairwise Le ∧ (pd l h0).Perm (l.map (sh (lw l[0].f0 l) (dn l[0].f1 l))) := sortC_spec _
/-- Neither the order of the cells nor their place counts. -/
theorem pd_perm {l m : List Cl} (A B : Int) (h : l.Perm (m.map (sh A B))) (h0 : 0 < l.length) (k0 : 0 < m.length) : pd l h0 = pd m k0 := by
 have hA : lw l[0].f0 l = lw m[0].f0 m - A := by
  obtain ⟨x, hx, ex⟩ := lw_at h0
  have hx' := (lw_le l l[0].f0).2
  obtain ⟨y, hy, ey⟩ := lw_at k0
  have hy' := (lw_le m m[0].f0).2
  obtain ⟨z, hz, ez⟩ := List.mem_map.1 (h.mem_iff.1 hx)
  have h1 := hy' z hz
  have h2 := hx' (sh A B y) (h.mem_iff.2 (List.mem_map_of_mem hy))
  have e1 : x.f0 = z.f0 - A := by rw [← ez]; rfl
  have e2 : (sh A B y).f0 = y.f0 - A := rfl
  omega
 have hB : dn l[0].f1 l = dn m[0].f1 m - B := by
  obtain ⟨x, hx, ex⟩ := dn_at h0
  have hx' := (dn_le l l[0].f1).2
  obtain ⟨y, hy, ey⟩ := dn_at k0
  have hy' := (dn_le m m[0].f1).2
  obtain ⟨z, hz, ez⟩ := List.mem_map.1 (h.mem_iff.1 hx)
  have h1 := hy' z hz
  have h2 := hx' (sh A B y) (h.mem_iff.2 (List.mem_map_of_mem hy))
  have e1 : x.f1 = z.f1 - B := by rw [← ez]; rfl
  have e2 : (sh A B y).f1 = y.f1 - B := rfl
  omega
 obtain ⟨s1, s2⟩ := pd_spec l h0
 obtain ⟨t1, t2⟩ := pd_spec m k0
 have hp : (l.map (sh (lw l[0].f0 l) (dn l[0].f1 l))).Perm (m.map (sh (lw m[0].f0 m) (dn m[0].f1 m))) := by
  have h2 := h.map (sh (lw l[0].f0 l) (dn l[0].f1 l))
  have e : (sh (lw l[0].f0 l) (dn l[0].f1 l) ∘ sh A B) = sh (lw m[0].f0 m) (dn m[0].f1 m) := by
   funext x; simp only [Function.comp, sh, hA, hB]; congr 1 <;> omega
  rw [List.map_map, e] at h2
  exact h2
 exact List.Perm.eq_of_pairwise (fun a b _ _ h k => le_antisymm h k) s1 t1 ((s2.trans hp).trans t2.symm)
theorem sh_zero : sh 0 0 = id := by funext x; simp [sh]
theorem pd_of_perm {l m : List Cl} (h : l.Perm m) (h0 : 0 < l.length) (k0 : 0 < m.length) : pd l h0 = pd m k0 := pd_perm 0 0 (by rw [sh_zero, List.map_id]; exact h) h0 k0
theorem pd_body {l : List Cl} (v : BodyV l) : pd l v.n0 = l := by
 obtain ⟨s1, s2⟩ := pd_spec l v.n0
 rw [v.lw0 v.n0, v.dn0 v.n0, sh_zero, List.map_id] at s2
 exact s2.eq_of_pairwise (fun a b _ _ h k => le_antisymm h k) s1 ((pairs v.sorted).imp fun h => le_of_bef h)
/-- A map of the grid that takes shifts to shifts. -/
def Sl (f : Cl → Cl) : Prop := ∀ A B, ∃ A' B', ∀ x, f (sh A B x) = sh A' B' (f x)
theorem pos_map {f : Cl → Cl} {l : List Cl} (h : 0 < l.length) : 0 < (l.map f).length := by rw [List.length_map]; exact h
theorem pd_pos {l : List Cl} (h : 0 < l.length) : 0 < (pd l h).length := by rw [pd_len]; exact h
theorem pd_comp {g : Cl → Cl} (hg : Sl g) {l : List Cl} (h0 : 0 < l.length) : pd ((pd l h0).map g) (pos_map (pd_pos h0)) = pd (l.map g) (pos_map h0) := by
 obtain ⟨s1, s2⟩ := pd_spec l h0
 obtain ⟨A', B', hh⟩ := hg (lw l[0].f0 l) (dn l[0].f1 l)
 refine pd_perm A' B' ?_ _ _
 have h2 := s2.map g
 rw [List.map_map] at h2 ⊢
 have e : (g ∘ sh (lw l[0].f0 l) (dn l[0].f1 l)) = (sh A' B' ∘ g) := by funext x; exact hh x
 rw [e] at h2
 exact h2
/-! ### bodies -/
structure IsB (l : List Cl) : Prop where
 v : BodyV l
 h : Hgs l
 nd : l.Nodup
theorem nodup_of {l : List Cl} (v : BodyV l) : l.Nodup := by
 have hp := pairs v.sorted
 refine hp.imp fun {x y} h e => ?_
 subst e
 unfold Bf at h; rw [bef_iff] at h; omega
theorem isB_of {l : List Cl} (hn : l.length ≤ 1048576) (h : Ev (fun k => impl_IsBody.f k l) true) : IsB l := by
 obtain ⟨r, e1, e2, e3, e4⟩ := isBody_full l hn
 have hr := ev_fun e2 h
 have v := e3 hr
 have nd := nodup_of v
 obtain ⟨h0, h1, hbp⟩ := e4.1 hr
 obtain ⟨t, g1, g2⟩ := hangs_iff h0 (by omega) (fun x hx => (v.each x hx).small) nd
 exact ⟨v, g2.1 (ev_fun g1 hbp.2.2.2), nd⟩
theorem IsB.ev {l : List Cl} (b : IsB l) : Ev (fun k => impl_IsBody.f k l) true ∧ Ev (fun k => spec_l8Body.f k l) true := by
 have n1 := b.v.n1
 obtain ⟨r, e1, e2, e3⟩ := put_body b.v.n0 n1 (fun x hx => (b.v.each x hx).small) b.nd
 obtain ⟨t, g1, g2⟩ := hangs_iff b.v.n0 (by omega) (fun x hx => (b.v.each x hx).small) b.nd
 rw [pd_body b.v] at e2 e3
 have ht := g2.2 b.h
 rw [ev_fun e1 g1, ht] at e2 e3
 exact ⟨e2, e3⟩
theorem pd_isB {l : List Cl} (h0 : 0 < l.length) (hn : l.length ≤ 12) (hs : ∀ x ∈ l, Small x) (hd : l.Nodup) (hh : Hgs l) : IsB (pd l h0) := by
 obtain ⟨r, e1, e2, e3⟩ := put_body h0 hn hs hd
 obtain ⟨t, g1, g2⟩ := hangs_iff h0 (by omega) hs hd
 rw [ev_fun e1 g1, g2.2 hh] at e2
 exact isB_of (by rw [pd_len]; omega) e2
theorem Hgs.map {f : Cl → Cl} (hf : ∀ x y, nr (f x) (f y) = nr x y) {l : List Cl} (k : Hgs l) : Hgs (l.map f) := by
 have key : ∀ a x, Vr l a x → Vr (l.map f) (f a) (f x) := by
  intro a x h
  induction h with
  | base => exact Vr.base
  | step _ hz hn ih => exact Vr.step ih (List.mem_map_of_mem hz) (by rw [hf]; exact hn)
 intro a ha x hx
 obtain ⟨a', ha', rfl⟩ := List.mem_map.1 ha
 obtain ⟨x', hx', rfl⟩ := List.mem_map.1 hx
 exact key _ _ (k a' ha' x' hx')
/-- A turn or a mirror image. -/
structure Iso (f : Cl → Cl) : Prop where
 near : ∀ x y, nr (f x) (f y) = nr x y
 inj : ∀ x y, f x = f y → x = y
 sl : Sl f
 small : ∀ x, InR x → Small (f x)
/-- A second map behind the first. -/
theorem Iso.comp {f g : Cl → Cl} (hg : Iso g) {l : List Cl} (b : IsB l) : pd ((pd (l.map f) (pos_map b.v.n0)).map g) (pos_map (pd_pos (pos_map b.v.n0))) = pd (l.map (g ∘ f)) (pos_map b.v.n0) := by
 rw [pd_comp hg.sl (pos_map b.v.n0)]
 exact pd_of_perm (by rw [List.map_map]) _ _
end Go.Proofs.YtckhmeadflafaaaGreat.PureShape
