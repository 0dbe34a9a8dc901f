/- Cells that hang together: two of them can go, each alone, and the others hang together still. No conditions beyond those of the lemmas' own hypotheses. -/
import Derived.Test.YtckhmeadflafaaaGreatReach
namespace Go.Proofs.YtckhmeadflafaaaGreat.PureTwo
open Go.RowKit YtckhmeadflafaaaGreat.XFc YtckhmeadflafaaaGreat.Plain YtckhmeadflafaaaGreat.PureCells YtckhmeadflafaaaGreat.PureBody YtckhmeadflafaaaGreat.PurePut YtckhmeadflafaaaGreat.PureHang YtckhmeadflafaaaGreat.PureLoose YtckhmeadflafaaaGreat.PureReach YtckhmeadflafaaaGreatW.PrintWords YtckhmeadflafaaaGreatW.PrintLast YtckhmeadflafaaaGreatW.PrintMore
set_option linter.unusedVariables false
theorem exits {l A : List Cl} {s x : Cl} (hs : s ∈ A) (h : Vr l s x) (hx : x ∉ A) : ∃ y ∈ A, ∃ z ∈ l, z ∉ A ∧ nr z y = true := by
 induction h with
 | base => exact absurd hs hx
 | @step y z h hz hn ih =>
  by_cases hy : y ∈ A
  ·exact ⟨y, hy, z, hz, hx, hn⟩
  ·exact ih hy
theorem Hgs.grow {A : List Cl} (k : Hgs A) {y z : Cl} (hy : y ∈ A) (hn : nr z y = true) : Hgs (z :: A) := by
 have up : ∀ a x, Vr A a x → Vr (z :: A) a x := fun a x h => Vr.congr (fun u hu => List.mem_cons_of_mem _ hu) h
 have hyz : Vr (z :: A) y z := Vr.step Vr.base List.mem_cons_self hn
 have hzy : Vr (z :: A) z y := Vr.symm (List.mem_cons_of_mem _ hy) hyz
 intro a ha x hx
 have h1 : Vr (z :: A) a y := by
  rcases List.mem_cons.1 ha with e | ha
  ·rw [e]; exact hzy
  ·exact up _ _ (k a ha y hy)
 have h2 : Vr (z :: A) y x := by
  rcases List.mem_cons.1 hx with e | hx
  ·rw [e]; exact hyz
  ·exact up _ _ (k y hy x hx)
 exact h1.trans h2
theorem nd_len : ∀ (l A : List Cl), l.Nodup → (∀ x ∈ l, x ∈ A) → l.length ≤ A.length := by
 haveI : DecidableEq Cl := fun a b => Classical.propDecidable (a = b)
 intro l
 induction l with
 | nil => intro A _ _; exact Nat.zero_le _
 | cons x l ih =>
  intro A hd h
  have hx := h x List.mem_cons_self
  obtain ⟨hx1, hd⟩ := List.nodup_cons.1 hd
  have h3 := ih (A.erase x) hd (fun y hy => (List.mem_erase_of_ne (fun e => hx1 (by rw [← e]; exact hy))).2 (h y (List.mem_cons_of_mem _ hy)))
  rw [List.length_erase_of_mem hx] at h3
  have := List.length_pos_of_mem hx
  rw [List.length_cons]; omega
theorem misses {l A : List Cl} (hd : l.Nodup) (h : A.length < l.length) : ∃ x ∈ l, x ∉ A := by
 refine Classical.byContradiction fun hno => ?_
 have h2 := nd_len l A hd (fun x hx => Classical.byContradiction fun h => hno ⟨x, hx, h⟩)
 omega
theorem part {l : List Cl} (k : Hgs l) (hd : l.Nodup) {s : Cl} (hs : s ∈ l) : ∀ m, m + 1 ≤ l.length → ∃ A : List Cl, A.length = m + 1 ∧ s ∈ A ∧ A.Nodup ∧ (∀ x ∈ A, x ∈ l) ∧ Hgs A := by
 intro m
 induction m with
 | zero => intro _; exact ⟨[s], rfl, by simp, by simp, by simpa using hs, by intro a ha x hx; rw [List.mem_singleton] at ha hx; subst ha; subst hx; exact Vr.base⟩
 | succ m ih =>
  intro hm
  obtain ⟨A, h1, h2, h3, h4, h5⟩ := ih (by omega)
  obtain ⟨x, hx, hxA⟩ := misses hd (A := A) (by omega)
  obtain ⟨y, hy, z, hz, hzA, hn⟩ := exits h2 (k s hs x hx) hxA
  exact ⟨z :: A, by rw [List.length_cons, h1], List.mem_cons_of_mem _ h2, List.nodup_cons.2 ⟨hzA, h3⟩, fun u hu => by
   rcases List.mem_cons.1 hu with e | hu
   ·rw [e]; exact hz
   ·exact h4 u hu, Hgs.grow h5 hy hn⟩
theorem goes {l : List Cl} (k : Hgs l) (hd : l.Nodup) {s : Cl} (hs : s ∈ l) (h2 : 2 ≤ l.length) : ∃ i, ∃ h : i < l.length, l[i] ≠ s ∧ Hgs (l.eraseIdx i) := by
 obtain ⟨A, h1, ha, h3, h4, h5⟩ := part k hd hs (l.length - 2) (by omega)
 obtain ⟨x, hx, hxA⟩ := misses hd (A := A) (by omega)
 obtain ⟨i, hi, rfl⟩ := List.getElem_of_mem hx
 have hsub : ∀ y ∈ A, y ∈ l.eraseIdx i := by
  intro y hy
  obtain ⟨j, hj, rfl⟩ := List.getElem_of_mem (h4 y hy)
  exact List.mem_eraseIdx_iff_getElem.2 ⟨j, hj, fun e => hxA (by subst e; exact hy), rfl⟩
 have hsup : ∀ y ∈ l.eraseIdx i, y ∈ A := by
  intro y hy
  refine Classical.byContradiction fun hyA => ?_
  have := nd_len (y :: A) (l.eraseIdx i) (List.nodup_cons.2 ⟨hyA, h3⟩) (fun u hu => by
   rcases List.mem_cons.1 hu with e | hu
   ·rw [e]; exact hy
   ·exact hsub u hu)
  rw [List.length_cons, List.length_eraseIdx_of_lt hi] at this
  omega
 exact ⟨i, hi, fun e => hxA (by rw [e]; exact ha), fun a ha' x hx' => Vr.congr hsub (h5 a (hsup a ha') x (hsup x hx'))⟩
/-- Two of them can go. -/
theorem two {l : List Cl} (k : Hgs l) (hd : l.Nodup) (h2 : 2 ≤ l.length) : ∃ i j, ∃ hi : i < l.length, ∃ hj : j < l.length, i ≠ j ∧ Hgs (l.eraseIdx i) ∧ Hgs (l.eraseIdx j) := by
 obtain ⟨i, hi, _, ki⟩ := goes k hd (List.getElem_mem (show 0 < l.length by omega)) h2
 obtain ⟨j, hj, hne, kj⟩ := goes k hd (List.getElem_mem hi) h2
 exact ⟨i, j, hi, hj, fun e => hne (by subst e; rfl), ki, kj⟩
end Go.Proofs.YtckhmeadflafaaaGreat.PureTwo
