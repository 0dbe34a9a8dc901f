/- What slices.Compact leaves of cells that are in order: each cell once. No conditions beyond those of the lemmas' own hypotheses. -/
import Derived.Test.YtckhmeadflafaaaGreatHang
import Derived.Test.YtckhmeadflafaaaGreatLoose
import Derived.Test.YtckhmeadflafaaaGreatXFcx6
namespace Go.Proofs.YtckhmeadflafaaaGreat.PureCompact
open Go.RowKit YtckhmeadflafaaaGreat.XFc YtckhmeadflafaaaGreat.Plain YtckhmeadflafaaaGreat.PureCells YtckhmeadflafaaaGreat.PureBody YtckhmeadflafaaaGreat.PurePut YtckhmeadflafaaaGreat.PureHang YtckhmeadflafaaaGreat.PureLoose YtckhmeadflafaaaGreatW.PrintWords YtckhmeadflafaaaGreatW.PrintLast YtckhmeadflafaaaGreatW.PrintMore
set_option linter.unusedVariables false
def eqc (x y : Cl) : Bool := x.f0 == y.f0 && (x.f1 == y.f1)
theorem eqc_iff (x y : Cl) : eqc x y = true ↔ x = y := by
 unfold eqc
 rw [Bool.and_eq_true, beq_iff_eq, beq_iff_eq]
 constructor
 ·rintro ⟨h1, h2⟩
  cases x; cases y
  simp only at h1 h2
  rw [h1, h2]
 ·rintro rfl; exact ⟨rfl, rfl⟩
/-- Of the first elements of a list, each that is not the one ahead of it again. -/
def dd (L : List Cl) : Nat → List Cl
 | 0 => []
 | j + 1 => if 0 < j ∧ eqc (at_ L j) (at_ L (j - 1)) = true then dd L j else dd L j ++ [at_ L j]
theorem dd_same {L : List Cl} {j : Nat} (h0 : 0 < j) (h : eqc (at_ L j) (at_ L (j - 1)) = true) : dd L (j + 1) = dd L j := by
 show (if 0 < j ∧ eqc (at_ L j) (at_ L (j - 1)) = true then dd L j else dd L j ++ [at_ L j]) = dd L j
 rw [if_pos ⟨h0, h⟩]
theorem dd_new {L : List Cl} {j : Nat} (h : ¬ eqc (at_ L j) (at_ L (j - 1)) = true) : dd L (j + 1) = dd L j ++ [at_ L j] := by
 show (if 0 < j ∧ eqc (at_ L j) (at_ L (j - 1)) = true then dd L j else dd L j ++ [at_ L j]) = _
 rw [if_neg (fun hh => h hh.2)]
theorem rd_at (L : List Cl) (j : Nat) : rd_T37 L (j : Int) = at_ L j := rfl
theorem at_drop {X L : List Cl} {a b : Nat} (h : X.drop a = L.drop a) (hab : a ≤ b) (hb : b < L.length) (hX : X.length = L.length) : at_ X b = at_ L b := by
 rw [at_lt (by omega), at_lt hb]
 have h1 : (X.drop a)[b - a]? = (L.drop a)[b - a]? := by rw [h]
 rw [List.getElem?_drop, List.getElem?_drop, show a + (b - a) = b by omega, List.getElem?_eq_getElem (by omega), List.getElem?_eq_getElem hb] at h1
 exact Option.some.inj h1
theorem at_off {X : List Cl} {a q : Nat} (h : a + q < X.length) : at_ (X.drop a) q = at_ X (a + q) := by
 rw [at_lt (by rw [List.length_drop]; omega), at_lt h, List.getElem_drop]
theorem in_l1 (L : List Cl) (hn : L.length ≤ 1000000) (k0 : Nat) (hk0 : 1 ≤ k0) (hk : k0 < L.length) : ∀ q, q ≤ L.length - k0 → 1 ≤ q → ∀ (X : List Cl) (i : Nat), X.length = L.length → i < k0 + q → X.take i = dd L (k0 + q) → X.drop (k0 + q - 1) = L.drop (k0 + q - 1) → Ev (fun k => slices_Compact.l1 k X (i : Int) k0 (L.length - k0) (q : Int)) (dd L L.length) := by
 refine downTo (L.length - k0) ?_ ?_
 ·intro h1 X i hX hi ht hd
  have e : k0 + (L.length - k0) = L.length := by omega
  rw [e] at ht hi
  refine Ev.step (fun k => by simp only [slices_Compact.l1]; exact rfl) (ifn (by omega) (ifp (by omega) (ifp (by omega) (done ?_))))
  rw [Int.toNat_natCast, ht]
 ·intro q hq ih h1 X i hX hi ht hd
  have hw : wrap64 ((q : Int) - 1) = ((q - 1 : Nat) : Int) := by rw [w64 (by omega) (by omega)]; omega
  have hq2 : wrap64 ((q : Int) + 1) = ((q + 1 : Nat) : Int) := wrapS (show q < L.length by omega) (by omega)
  have e1 : at_ (X.drop k0) q = at_ L (k0 + q) := by rw [at_off (by omega)]; exact at_drop hd (by omega) (by omega) hX
  have e2 : at_ (X.drop k0) (q - 1) = at_ L (k0 + q - 1) := by
   rw [at_off (by omega), show k0 + (q - 1) = k0 + q - 1 by omega]
   exact at_drop hd (by omega) (by omega) hX
  have hd' : X.drop (k0 + (q + 1) - 1) = L.drop (k0 + (q + 1) - 1) := by
   have h2 := congrArg (List.drop 1) hd
   rw [List.drop_drop, List.drop_drop, show k0 + q - 1 + 1 = k0 + (q + 1) - 1 by omega] at h2
   exact h2
  refine Ev.step (fun k => by simp only [slices_Compact.l1]; exact rfl) (ifp (by omega) (ifp (by omega) ?_))
  rw [hw]
  refine ifp (by omega) (ifp (by omega) ?_)
  rw [rd_at, rd_at, e1, e2, hq2]
  by_cases hs : eqc (at_ L (k0 + q)) (at_ L (k0 + q - 1)) = true
  ·have hs2 := (eqc_iff _ _).1 hs
   refine ifn (by rw [hs2]; simp) ?_
   exact ih (by omega) X i hX (by omega) (by rw [ht]; exact (dd_same (by omega) hs).symm) hd'
  ·refine ifp (by unfold eqc at hs; simpa [Bool.and_eq_true, ← Bool.not_and] using hs) (ifp (by omega) (ifp (by omega) ?_))
   rw [wrapS (show i < L.length by omega) (by omega), Int.toNat_natCast]
   refine ih (by omega) (X.set i (at_ L (k0 + q))) (i + 1) (by rw [List.length_set, hX]) (by omega) ?_ ?_
   ·rw [take_set_succ _ (by omega), ht]
    exact (dd_new hs).symm
   ·rw [List.drop_set_of_lt (by omega)]; exact hd'
theorem out_l0 (L : List Cl) (hn : L.length ≤ 1000000) : ∀ j, j ≤ L.length → 1 ≤ j → dd L j = L.take j → Ev (fun k => slices_Compact.l0 k L (j : Int)) (dd L L.length) := by
 refine downTo L.length ?_ ?_
 ·intro h1 hd
  rw [List.take_length] at hd
  exact Ev.step (fun k => by simp only [slices_Compact.l0]; exact rfl) (ifn (by omega) (done hd.symm))
 ·intro j hj ih h1 hd
  have hw : wrap64 ((j : Int) - 1) = ((j - 1 : Nat) : Int) := by rw [w64 (by omega) (by omega)]; omega
  refine Ev.step (fun k => by simp only [slices_Compact.l0]; exact rfl) (ifp (by omega) (ifp (by omega) ?_))
  rw [hw]
  refine ifp (by omega) (ifp (by omega) ?_)
  rw [rd_at, rd_at, wrapS hj (by omega), Int.toNat_natCast]
  by_cases hs : eqc (at_ L j) (at_ L (j - 1)) = true
  ·refine ifp hs (ifp (by omega) ?_)
   exact in_l1 L hn j h1 hj 1 (by omega) (Nat.le_refl _) L j rfl (by omega) (by rw [dd_same (by omega) hs, hd]) rfl
  ·refine ifn hs (ih (by omega) ?_)
   rw [dd_new hs, hd, take_succ hj, at_lt hj]
theorem compact_ev (L : List Cl) (hn : L.length ≤ 1000000) : Ev (fun k => slices_Compact.f k L) (dd L L.length) := by
 have d1 : ∀ h : 0 < L.length, dd L 1 = L.take 1 := by
  intro h
  show (if 0 < 0 ∧ eqc (at_ L 0) (at_ L (0 - 1)) = true then dd L 0 else dd L 0 ++ [at_ L 0]) = L.take 1
  rw [if_neg (fun hh => absurd hh.1 (by omega)), at_lt h, show (1 : Nat) = 0 + 1 from rfl, take_succ h]
  rfl
 unfold slices_Compact.f
 by_cases h : (L.length : Int) < 2
 ·refine ifp h (done ?_)
  by_cases h0 : L.length = 0
  ·rw [h0, List.eq_nil_of_length_eq_zero h0]; rfl
  ·rw [show L.length = 1 by omega, d1 (by omega)]
   exact (List.take_of_length_le (by omega)).symm
 ·exact ifn h (out_l0 L hn 1 (by omega) (Nat.le_refl _) (d1 (by omega)))
/-! ### of cells in order -/
theorem dd_spec {L : List Cl} (hs : L.Pairwise Le) : ∀ j, j ≤ L.length → (dd L j).Pairwise Bf ∧ (∀ x, x ∈ dd L j ↔ x ∈ L.take j) ∧ ∀ x ∈ dd L j, ∀ h : 0 < j, Le x (at_ L (j - 1)) := by
 intro j
 induction j with
 | zero => intro _; exact ⟨List.Pairwise.nil, fun x => by simp [dd], fun x hx => by simp [dd] at hx⟩
 | succ j ih =>
  intro hj
  have hj' : j < L.length := by omega
  obtain ⟨h1, h2, h3⟩ := ih (by omega)
  have hle : ∀ h : 0 < j, Le (at_ L (j - 1)) (at_ L j) := by
   intro h
   rw [at_lt (show j - 1 < L.length by omega), at_lt hj']
   exact (List.pairwise_iff_getElem.1 hs) (j - 1) j (by omega) hj' (by omega)
  have hxj : ∀ x ∈ dd L j, Le x (at_ L j) := by
   intro x hx
   have h0 : 0 < j := by
    rcases Nat.eq_zero_or_pos j with h | h
    ·subst h; simp [dd] at hx
    ·exact h
   exact le_trans (h3 x hx h0) (hle h0)
  have hrefl : Le (at_ L j) (at_ L j) := by unfold Le; rw [← Bool.not_eq_true, bef_iff]; omega
  by_cases hc : 0 < j ∧ eqc (at_ L j) (at_ L (j - 1)) = true
  ·rw [dd_same hc.1 hc.2]
   refine ⟨h1, fun x => ?_, fun x hx _ => hxj x hx⟩
   rw [h2, take_succ hj', List.mem_append, List.mem_singleton]
   refine ⟨Or.inl, ?_⟩
   rintro (h | h)
   ·exact h
   ·rw [h, ← at_lt hj', (eqc_iff _ _).1 hc.2, at_lt (show j - 1 < L.length by omega)]
    have : j - 1 < (L.take j).length := by rw [List.length_take]; omega
    have e : (L.take j)[j - 1] = L[j - 1] := List.getElem_take
    rw [← e]; exact List.getElem_mem this
  ·have e : dd L (j + 1) = dd L j ++ [at_ L j] := by
    show (if 0 < j ∧ eqc (at_ L j) (at_ L (j - 1)) = true then dd L j else dd L j ++ [at_ L j]) = _
    rw [if_neg hc]
   rw [e]
   refine ⟨?_, fun x => ?_, fun x hx _ => ?_⟩
   ·rw [List.pairwise_append]
    refine ⟨h1, List.pairwise_singleton _ _, fun x hx y hy => ?_⟩
    rw [List.mem_singleton] at hy
    subst hy
    have h0 : 0 < j := by
     rcases Nat.eq_zero_or_pos j with h | h
     ·subst h; simp [dd] at hx
     ·exact h
    have hne : ¬ at_ L j = at_ L (j - 1) := fun e => hc ⟨h0, (eqc_iff _ _).2 e⟩
    have ha := h3 x hx h0
    have hb := hle h0
    have hcb : bef (at_ L (j - 1)) (at_ L j) = true := by
     cases hh : bef (at_ L (j - 1)) (at_ L j) with
     | true => rfl
     | false => exact absurd (le_antisymm (show Le (at_ L j) (at_ L (j - 1)) from hh) hb) hne
    unfold Bf
    unfold Le at ha
    rw [← Bool.not_eq_true] at ha
    rw [bef_iff] at *
    omega
   ·rw [List.mem_append, List.mem_singleton, h2, take_succ hj', List.mem_append, List.mem_singleton, at_lt hj']
   ·rcases List.mem_append.1 hx with h | h
    ·exact hxj x h
    ·rw [List.mem_singleton] at h; rw [h]; exact hrefl
/-- Two lists in strict order with the same members are one list. -/
theorem bf_ext : ∀ l m : List Cl, l.Pairwise Bf → m.Pairwise Bf → (∀ x, x ∈ l ↔ x ∈ m) → l = m := by
 intro l
 induction l with
 | nil =>
  intro m _ _ h
  cases m with
  | nil => rfl
  | cons y m => exact absurd ((h y).2 List.mem_cons_self) List.not_mem_nil
 | cons x l ih =>
  intro m hl hm h
  cases m with
  | nil => exact absurd ((h x).1 List.mem_cons_self) List.not_mem_nil
  | cons y m =>
   obtain ⟨l1, l2⟩ := List.pairwise_cons.1 hl
   obtain ⟨m1, m2⟩ := List.pairwise_cons.1 hm
   have irr : ∀ z : Cl, ¬ Bf z z := by intro z hz; unfold Bf at hz; rw [bef_iff] at hz; omega
   have hxy : x = y := by
    rcases List.mem_cons.1 ((h x).1 List.mem_cons_self) with e | e
    ·exact e
    ·rcases List.mem_cons.1 ((h y).2 List.mem_cons_self) with e2 | e2
     ·exact e2.symm
     ·exact absurd ((m1 x e).trans (l1 y e2)) (irr y)
   subst hxy
   refine congrArg (x :: ·) (ih m l2 m2 (fun z => ⟨fun hz => ?_, fun hz => ?_⟩))
   ·rcases List.mem_cons.1 ((h z).1 (List.mem_cons_of_mem _ hz)) with e | e
    ·subst e; exact absurd (l1 z hz) (irr z)
    ·exact e
   ·rcases List.mem_cons.1 ((h z).2 (List.mem_cons_of_mem _ hz)) with e | e
    ·subst e; exact absurd (m1 z hz) (irr z)
    ·exact e
end Go.Proofs.YtckhmeadflafaaaGreat.PureCompact
