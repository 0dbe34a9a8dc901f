/- A body laid on a flat one that is below all of it: it holds exactly if it stands. No conditions beyond those of the lemmas' own hypotheses. -/
import Derived.Test.YtckhmeadflafaaaStackBoth
import Derived.Test.YtckhmeadflafaaaSide
import Derived.Test.YtckhmeadflafaaaXFsx21
import Derived.Test.YtckhmeadflafaaaXFsx15
namespace Go.Proofs.Ytckhmeadflafaaa.PureFlat
open Go.RowKit Go.Proofs.Ytckhmeadflafaaa.XFs Go.Proofs.Ytckhmeadflafaaa.Plain Go.Proofs.Ytckhmeadflafaaa.PureCells Go.Proofs.Ytckhmeadflafaaa.PureBody Go.Proofs.Ytckhmeadflafaaa.PurePut Go.Proofs.Ytckhmeadflafaaa.PureHang Go.Proofs.Ytckhmeadflafaaa.PureLoose Go.Proofs.Ytckhmeadflafaaa.PureReach Go.Proofs.Ytckhmeadflafaaa.PureGround Go.Proofs.Ytckhmeadflafaaa.PureStack Go.Proofs.Ytckhmeadflafaaa.PureHas Go.Proofs.Ytckhmeadflafaaa.PureStackBoth Go.Proofs.Ytckhmeadflafaaa.PureSide Go.Proofs.YtckhmeadflafaaaW.PrintWords Go.Proofs.YtckhmeadflafaaaW.PrintLast Go.Proofs.YtckhmeadflafaaaW.PrintMore
set_option linter.unusedVariables false
def flatL (w : Nat) : List Cl := (List.range w).map fun i : Nat => (⟨(i : Int), 0⟩ : Cl)
theorem flat_len (w : Nat) : (flatL w).length = w := by simp [flatL]
theorem flat_get {w i : Nat} (h : i < (flatL w).length) : (flatL w)[i] = (⟨(i : Int), 0⟩ : Cl) := by simp [flatL]
theorem flat_mem (w : Nat) (z : Cl) : z ∈ flatL w ↔ 0 ≤ z.f0 ∧ z.f0 < (w : Int) ∧ z.f1 = 0 := by
  unfold flatL
  rw [List.mem_map]
  constructor
  · rintro ⟨i, hi, rfl⟩
    have := List.mem_range.1 hi
    exact ⟨by show (0 : Int) ≤ (i : Int); omega, by show (i : Int) < (w : Int); omega, rfl⟩
  · rintro ⟨h1, h2, h3⟩
    refine ⟨z.f0.toNat, List.mem_range.2 (by omega), ?_⟩
    cases z
    simp only at h1 h2 h3 ⊢
    congr 1
    · omega
    · exact h3.symm
theorem flat_has (w : Nat) (x y : Int) : hsC (flatL w) x y = true ↔ 0 ≤ x ∧ x < (w : Int) ∧ y = 0 := by
  unfold hsC
  rw [List.any_eq_true]
  constructor
  · rintro ⟨z, hz, h⟩
    have h := of_decide_eq_true h
    have := (flat_mem w z).1 hz
    omega
  · intro h
    exact ⟨⟨x, y⟩, (flat_mem w _).2 h, decide_eq_true ⟨rfl, rfl⟩⟩
theorem flat_reach (l : List Cl) (w : Nat) (hsub : ∀ z ∈ flatL w, z ∈ l) : ∀ i : Nat, i < w → Vr l ⟨0, 0⟩ ⟨(i : Int), 0⟩ := by
  intro i
  induction i with
  | zero => intro _; exact Vr.base
  | succ i ih =>
    intro h
    refine Vr.step (ih (by omega)) (hsub _ ((flat_mem w _).2 ⟨by show (0 : Int) ≤ ((i + 1 : Nat) : Int); omega, by show ((i + 1 : Nat) : Int) < (w : Int); omega, rfl⟩)) ?_
    unfold nr ab
    rw [decide_eq_true_eq]
    show (if -(((i + 1 : Nat) : Int) - (i : Int)) > ((i + 1 : Nat) : Int) - (i : Int) then -(((i + 1 : Nat) : Int) - (i : Int)) else ((i + 1 : Nat) : Int) - (i : Int)) + (if -((0 : Int) - 0) > (0 : Int) - 0 then -((0 : Int) - 0) else (0 : Int) - 0) = 1
    split <;> split <;> omega
theorem flat_hgs (w : Nat) : Hgs (flatL w) := by
  intro a ha x hx
  have key : ∀ z ∈ flatL w, Vr (flatL w) ⟨0, 0⟩ z := by
    intro z hz
    have h := (flat_mem w z).1 hz
    have := flat_reach (flatL w) w (fun z h => h) z.f0.toNat (by omega)
    have e : (⟨((z.f0.toNat : Nat) : Int), 0⟩ : Cl) = z := by
      cases z; simp only at h ⊢; congr 1 <;> omega
    rw [e] at this; exact this
  have h0 : (⟨0, 0⟩ : Cl) ∈ flatL w := by
    have h := (flat_mem w a).1 ha
    exact (flat_mem w _).2 ⟨Int.le_refl _, by show (0 : Int) < (w : Int); omega, rfl⟩
  exact Vr.trans (Vr.symm h0 (key a ha)) (key x hx)
theorem flat_bf (w : Nat) : (flatL w).Pairwise Bf := by
  rw [List.pairwise_iff_getElem]
  intro i j hi hj hij
  rw [flat_get hi, flat_get hj]
  unfold Bf
  rw [bef_iff]
  exact Or.inl (by show (i : Int) < (j : Int); omega)
theorem nodup_bf {l : List Cl} (h : l.Pairwise Bf) : l.Nodup := h.imp (fun {x y} h e => by subst e; unfold Bf at h; rw [bef_iff] at h; omega)
theorem flat_body (w : Nat) (h1 : 1 ≤ w) (h2 : w ≤ 12) : Ev (fun k => impl_IsBody.f k (flatL w)) true ∧ BodyV (flatL w) := by
  have hl := flat_len w
  have h0 : 0 < (flatL w).length := by omega
  obtain ⟨r, e1, e2, e3, e4⟩ := isBody_full (flatL w) (by omega)
  have hin : ∀ z ∈ flatL w, InR z := by
    intro z hz
    have := (flat_mem w z).1 hz
    exact ⟨⟨by omega, by omega⟩, by omega, by omega⟩
  obtain ⟨t, t1, t2⟩ := hangs_iff h0 (by omega) (fun x hx => (hin x hx).small) (nodup_bf (flat_bf w))
  have ht := t2.2 (flat_hgs w)
  have m0 : (⟨0, 0⟩ : Cl) ∈ flatL w := (flat_mem w _).2 ⟨Int.le_refl _, by show (0 : Int) < (w : Int); omega, rfl⟩
  have hr : r = true := by
    rw [e4]
    refine ⟨h0, by omega, fun j hj _ => ⟨hin _ (List.getElem_mem hj), fun hj0 => List.pairwise_iff_getElem.1 (flat_bf w) (j - 1) j (by omega) hj (by omega)⟩, ?_, ?_, ht ▸ t1⟩
    · have k1 := (lw_le (flatL w) (flatL w)[0].f0).2 _ m0
      have k2 := lw_ge (flatL w) 0 (flatL w)[0].f0 (hin _ (List.getElem_mem h0)).1.1 (fun x hx => (hin x hx).1.1)
      have k3 : (⟨0, 0⟩ : Cl).f0 = 0 := rfl
      omega
    · have k1 := (dn_le (flatL w) (flatL w)[0].f1).2 _ m0
      have k2 := dn_ge (flatL w) 0 (flatL w)[0].f1 (hin _ (List.getElem_mem h0)).2.1 (fun x hx => (hin x hx).2.1)
      have k3 : (⟨0, 0⟩ : Cl).f1 = 0 := rfl
      omega
  exact ⟨hr ▸ e2, e3 hr⟩
theorem body_hgs {c : List Cl} (v : BodyV c) (hb : Ev (fun k => impl_IsBody.f k c) true) : Hgs c := by
  have n1 := v.n1
  obtain ⟨r, e1, e2, e3, e4⟩ := isBody_full c (by omega)
  have hr := ev_fun e2 hb
  obtain ⟨h0, _, hbp⟩ := e4.1 hr
  obtain ⟨t, t1, t2⟩ := hangs_iff h0 (by omega) (fun x hx => (v.each x hx).small) (nodup_bf (pairs v.sorted))
  exact t2.1 (ev_fun t1 hbp.2.2.2)
/-- The flat body and the one on it hang together. -/
theorem all_hgs {c : List Cl} (v : BodyV c) (hc : Hgs c) (w : Nat) (hw : ∀ x ∈ c, x.f0 + 1 ≤ (w : Int)) : Hgs (flatL w ++ c.map (mvd 0 1)) := by
  obtain ⟨g, hg, hg0⟩ := v.ground
  have hgr := v.each g hg
  have hgw := hw g hg
  have hmf : ∀ z ∈ flatL w, z ∈ flatL w ++ c.map (mvd 0 1) := fun z hz => List.mem_append_left _ hz
  have h0 : (⟨0, 0⟩ : Cl) ∈ flatL w := (flat_mem w _).2 ⟨Int.le_refl _, by show (0 : Int) < (w : Int); have := hgr.1.1; omega, rfl⟩
  have hshift : ∀ x, mvd 0 1 x = sh 0 (-1) x := by
    intro x; unfold mvd sh; congr 1 <;> omega
  have hmv : Hgs (c.map (mvd 0 1)) := by
    have e : c.map (mvd 0 1) = c.map (sh 0 (-1)) := List.map_congr_left (fun x _ => hshift x)
    rw [e]; exact hc.sh 0 (-1)
  have base : ∀ z ∈ flatL w, Vr (flatL w ++ c.map (mvd 0 1)) ⟨0, 0⟩ z := fun z hz => Vr.congr hmf (flat_hgs w _ h0 z hz)
  have hg1 : mvd 0 1 g ∈ c.map (mvd 0 1) := List.mem_map_of_mem hg
  have hgf : (⟨g.f0, 0⟩ : Cl) ∈ flatL w := (flat_mem w _).2 ⟨hgr.1.1, by show g.f0 < (w : Int); omega, rfl⟩
  have link : nr (mvd 0 1 g) ⟨g.f0, 0⟩ = true := by
    unfold nr ab
    rw [decide_eq_true_eq]
    show (if -((g.f0 + 0) - g.f0) > (g.f0 + 0) - g.f0 then -((g.f0 + 0) - g.f0) else (g.f0 + 0) - g.f0) + (if -((g.f1 + 1) - 0) > (g.f1 + 1) - 0 then -((g.f1 + 1) - 0) else (g.f1 + 1) - 0) = 1
    split <;> split <;> omega
  have up : Vr (flatL w ++ c.map (mvd 0 1)) ⟨0, 0⟩ (mvd 0 1 g) := Vr.step (base _ hgf) (List.mem_append_right _ hg1) link
  have all : ∀ z ∈ flatL w ++ c.map (mvd 0 1), Vr (flatL w ++ c.map (mvd 0 1)) ⟨0, 0⟩ z := by
    intro z hz
    rcases List.mem_append.1 hz with hz | hz
    · exact base z hz
    · exact Vr.trans up (Vr.congr (fun y hy => List.mem_append_right _ hy) (hmv _ hg1 z hz))
  intro a ha x hx
  exact Vr.trans (Vr.symm (hmf _ h0) (all a ha)) (all x hx)
theorem all_up {c : List Cl} (v : BodyV c) (w : Nat) (hw : ∀ x ∈ c, x.f0 + 1 ≤ (w : Int)) : upO 0 (flatL w) c 0 = 1 := by
  obtain ⟨h1, h2, h3⟩ := upO_spec 0 (flatL w) c 0
  obtain ⟨g, hg, hg0⟩ := v.ground
  have hgr := v.each g hg
  have hgw := hw g hg
  have k := h2 g hg ⟨g.f0, 0⟩ ((flat_mem w _).2 ⟨hgr.1.1, by show g.f0 < (w : Int); omega, rfl⟩) (by show g.f0 = g.f0 + 0; omega)
  have k2 : (0 : Int) + 1 - g.f1 ≤ upO 0 (flatL w) c 0 := k
  rcases h3 with h3 | ⟨x, hx, e, he, _, h3⟩
  · omega
  · have := (flat_mem w e).1 he
    have := (v.each x hx).2.1
    omega
def RelG (c : List Cl) (i : Nat) (p q f t : Int) : Prop := (p = 12 ∧ q = 0 ∧ f = 60 ∧ t = -60 ∧ ∃ j, ∃ h : j < c.length, i ≤ j ∧ c[j].f1 = 0) ∨ (p = f ∧ q = t ∧ (0 ≤ p ∧ p ≤ 12) ∧ (p < q ∧ q ≤ 13))
theorem on_flat {c : List Cl} (v : BodyV c) (hc : Hgs c) (w : Nat) (hw : ∀ x ∈ c, x.f0 + 1 ≤ (w : Int)) (h12 : w + c.length ≤ 12) (m : Int) (hm : Ev (fun k => impl_middles_0.f k c) m) (hm0 : 0 ≤ m ∧ m ≤ 300) :
    ∀ i, i ≤ c.length → ∀ acc : List Cl, acc = flatL w ++ (c.take i).map (mvd 0 1) → ∀ p q f t : Int, RelG c i p q f t → ∃ (g h : Int) (r : List Cl × Bool × Bool), Ev (fun k => impl_groundOf.l0 k p q c (c.length : Int) (i : Int)) (g, h) ∧ Ev (fun k => impl_StackBodies.l2 k (flatL w) c 0 1 acc f t c (c.length : Int) (i : Int)) r ∧ r.2.2 = true ∧ r.2.1 = decide (g * (2 * (c.length : Int)) ≤ m ∧ m ≤ h * (2 * (c.length : Int))) ∧ (0 ≤ g ∧ g ≤ 12) ∧ 0 ≤ h ∧ h ≤ 13 := by
  have n0 := v.n0
  have n1 := v.n1
  refine downTo c.length ?_ ?_
  · intro acc hacc p q f t hr
    subst hacc
    rw [List.take_length]
    rcases hr with ⟨_, _, _, _, j, hj, hij, _⟩ | ⟨rfl, rfl, hp, hq⟩
    · omega
    · have hlen : (flatL w ++ c.map (mvd 0 1)).length = w + c.length := by simp [flat_len]
      have h0 : 0 < (flatL w ++ c.map (mvd 0 1)).length := by omega
      have hs : ∀ x ∈ flatL w ++ c.map (mvd 0 1), Small x := by
        intro x hx
        rcases List.mem_append.1 hx with hx | hx
        · have := (flat_mem w x).1 hx
          exact ⟨⟨by omega, by omega⟩, by omega, by omega⟩
        · obtain ⟨y, hy, rfl⟩ := List.mem_map.1 hx
          obtain ⟨⟨k1, k2⟩, k3, k4⟩ := v.each y hy
          exact ⟨⟨by show -1000000 ≤ y.f0 + 0; omega, by show y.f0 + 0 ≤ 1000000; omega⟩, by show -1000000 ≤ y.f1 + 1; omega, by show y.f1 + 1 ≤ 1000000; omega⟩
      have hnd : (flatL w ++ c.map (mvd 0 1)).Nodup := by
        have hna := nodup_bf (flat_bf w)
        have hnm : (c.map (mvd 0 1)).Nodup := nodup_map (fun x y h => by
          unfold mvd at h; injection h with h1 h2; cases x; cases y; simp only at h1 h2; congr 1 <;> omega) (nodup_bf (pairs v.sorted))
        unfold List.Nodup at *
        refine List.pairwise_append.2 ⟨hna, hnm, fun x hx y hy e => ?_⟩
        obtain ⟨z, hz, rfl⟩ := List.mem_map.1 hy
        have k1 := (flat_mem w x).1 hx
        have k2 := (v.each z hz).2.1
        have k3 : x.f1 = z.f1 + 1 := by rw [e]; rfl
        omega
      obtain ⟨r0, e1, e2, e3⟩ := put_body h0 (by omega) hs hnd
      obtain ⟨t0, t1, t2⟩ := hangs_iff h0 (by omega) hs hnd
      have hr0 : r0 = true := by rw [ev_fun e1 t1]; exact t2.2 (all_hgs v hc w hw)
      subst hr0
      have hpt := put_ev _ h0 (by omega) hs
      have nlt : ¬ (c.length : Int) < (c.length : Int) := Int.lt_irrefl _
      have hpq : p ≤ q := by omega
      obtain ⟨l1, l2, l3, l4⟩ := small_mul (c.length : Int) p (by omega) (by omega)
      obtain ⟨h1, h2, h3, h4⟩ := small_mul (c.length : Int) q (by omega) (by omega)
      have c1 : p * (2 * (c.length : Int)) ≤ m ∨ ¬ p * (2 * (c.length : Int)) ≤ m := Decidable.em _
      have w2 : wrap64 (2 * (c.length : Int)) = 2 * (c.length : Int) := w64 (by omega) (by omega)
      have wl : wrap64 (p * (2 * (c.length : Int))) = p * (2 * (c.length : Int)) := w64 (by omega) (by omega)
      have wh : wrap64 (q * (2 * (c.length : Int))) = q * (2 * (c.length : Int)) := w64 (by omega) (by omega)
      have wd : wrap64 (2 * (c.length : Int) * 0) = 0 := by rw [Int.mul_zero]; exact w64 (by omega) (by omega)
      have wm : wrap64 (m + 0) = m := by rw [Int.add_zero]; exact w64 (by omega) (by omega)
      have main : Ev (fun k => impl_StackBodies.l2 k (flatL w) c 0 1 (flatL w ++ c.map (mvd 0 1)) p q c (c.length : Int) (c.length : Int)) (pd _ h0, decide (p * (2 * (c.length : Int)) ≤ m ∧ m ≤ q * (2 * (c.length : Int))), true) := by
        refine Ev.step (fun k => by simp only [impl_StackBodies.l2]; exact rfl) (ifn nlt (Ev.bind hpt (Ev.bind e2 ?_)))
        refine ifp (Eq.refl true) (Ev.bind hm ?_)
        refine ifp hpq ?_
        rw [w2, wl, wh, wd, wm]
        rcases c1 with c1 | c1
        · refine ifp c1 (done ?_)
          have : decide (m ≤ q * (2 * (c.length : Int))) = decide (p * (2 * (c.length : Int)) ≤ m ∧ m ≤ q * (2 * (c.length : Int))) := decide_eq_decide.2 ⟨fun h => ⟨c1, h⟩, fun h => h.2⟩
          rw [this]
        · refine ifn c1 (done ?_)
          rw [decide_eq_false (fun h : p * (2 * (c.length : Int)) ≤ m ∧ m ≤ q * (2 * (c.length : Int)) => c1 h.1)]
      exact ⟨p, q, _, Ev.step (fun k => by simp only [impl_groundOf.l0]; exact rfl) (ifn nlt (done rfl)), main, rfl, rfl, hp, by omega, hq.2⟩
  · intro i hi ih acc hacc p q f t hr
    have hil : (i : Int) < (c.length : Int) := by omega
    have hi0 : 0 ≤ (i : Int) := by omega
    obtain ⟨⟨c1, c2⟩, c3, c4⟩ := v.each c[i] (List.getElem_mem hi)
    have hwi := hw c[i] (List.getElem_mem hi)
    have hal : acc.length < 8796093022208 := by rw [hacc]; simp [flat_len]; omega
    have hnx : acc ++ [mvd 0 1 c[i]] = flatL w ++ (c.take (i + 1)).map (mvd 0 1) := by rw [hacc, take_succ hi, List.map_append, List.append_assoc]; rfl
    have hfh := flat_has w (c[i].f0 + 0) (c[i].f1 + 1 - 1)
    have hcon := contains_ev (flatL w) (by rw [flat_len]; omega) (c[i].f0 + 0) (c[i].f1 + 1 - 1)
    have hgrd : hsC (flatL w) (c[i].f0 + 0) (c[i].f1 + 1 - 1) = true ↔ c[i].f1 = 0 := by rw [hfh]; omega
    have hrel1 : c[i].f1 = 0 → RelG c (i + 1) (mn p c[i].f0) (mx q (c[i].f0 + 1)) (mn f (c[i].f0 + 0)) (mx t (c[i].f0 + 0 + 1)) := by
      intro _
      right
      rw [Int.add_zero]
      unfold mn mx
      rcases hr with ⟨rfl, rfl, rfl, rfl, _⟩ | ⟨rfl, rfl, hp, hq⟩
      · refine ⟨?_, ?_, ?_, ?_⟩ <;> repeat' split
        all_goals omega
      · refine ⟨rfl, rfl, ?_, ?_⟩ <;> repeat' split
        all_goals omega
    have hrel0 : ¬ c[i].f1 = 0 → RelG c (i + 1) p q f t := by
      intro hne
      rcases hr with ⟨k1, k2, k3, k4, j, hj, hij, hj0⟩ | h
      · refine Or.inl ⟨k1, k2, k3, k4, j, hj, ?_, hj0⟩
        by_cases e : j = i
        · subst e; exact absurd hj0 hne
        · omega
      · exact Or.inr h
    clear hr hfh
    have w1 : wrap64 (c[i].f0 + 0) = c[i].f0 + 0 := w64 (by omega) (by omega)
    have w2 : wrap64 (c[i].f1 + 1) = c[i].f1 + 1 := w64 (by omega) (by omega)
    have w3 : wrap64 (c[i].f1 + 1 - 1) = c[i].f1 + 1 - 1 := w64 (by omega) (by omega)
    have w4 : wrap64 (c[i].f0 + 0 + 1) = c[i].f0 + 0 + 1 := w64 (by omega) (by omega)
    have w5 : wrap64 (c[i].f0 + 1) = c[i].f0 + 1 := w64 (by omega) (by omega)
    have hw' : wrap64 ((i : Int) + 1) = ((i + 1 : Nat) : Int) := wrapS hi (by omega)
    by_cases ht : c[i].f1 = 0
    · obtain ⟨g, h, r, e1, e2, e3⟩ := ih _ hnx _ _ _ _ (hrel1 ht)
      refine ⟨g, h, r, Ev.step (fun k => by simp only [impl_groundOf.l0]; exact rfl) (ifp hil (ifp hi0 (ifp hil ?_))), Ev.step (fun k => by simp only [impl_StackBodies.l2]; exact rfl) (ifp hil (ifp hi0 (ifp hil ?_))), e3⟩
      · rw [rdC hi, w5, hw']; exact ifp ht e1
      · rw [rdC hi, w1, w2, w3, w4, hw']
        exact Ev.bind hcon (ifp (hgrd.2 ht) (ifp hal e2))
    · obtain ⟨g, h, r, e1, e2, e3⟩ := ih _ hnx _ _ _ _ (hrel0 ht)
      refine ⟨g, h, r, Ev.step (fun k => by simp only [impl_groundOf.l0]; exact rfl) (ifp hil (ifp hi0 (ifp hil ?_))), Ev.step (fun k => by simp only [impl_StackBodies.l2]; exact rfl) (ifp hil (ifp hi0 (ifp hil ?_))), e3⟩
      · rw [rdC hi, hw']; exact ifn ht e1
      · rw [rdC hi, w1, w2, w3, w4, hw']
        exact Ev.bind hcon (ifn (fun hh => ht (hgrd.1 hh)) (ifp hal e2))
theorem flat_ev {c : List Cl} (v : BodyV c) (hb : Ev (fun k => impl_IsBody.f k c) true) (w : Nat) (hw : ∀ x ∈ c, x.f0 + 1 ≤ (w : Int)) (h12 : w + c.length ≤ 12) (s : Int) (hs : Ev (fun k => impl_bodySide.f k c) s) : ∃ r : List Cl × Bool × Bool, Ev (fun k => impl_StackBodies.f k (flatL w) c 0) r ∧ r.2.2 = true ∧ r.2.1 = (s == 0) := by
  have n0 := v.n0
  have n1 := v.n1
  have hw1 : 1 ≤ w := by
    obtain ⟨g, hg, _⟩ := v.ground
    have := hw g hg
    have := (v.each g hg).1.1
    omega
  obtain ⟨m, _, m2, m3, m4⟩ := middle0_ev c n1 v.each
  obtain ⟨x, hx, hx0⟩ := v.ground
  obtain ⟨j, hj, rfl⟩ := List.getElem_of_mem hx
  obtain ⟨g, h, r, e1, e2, e3, e4, e5, e6, e7⟩ := on_flat v (body_hgs v hb) w hw h12 m m2 ⟨m3, m4⟩ 0 (Nat.zero_le _) (flatL w) (by simp) 12 0 60 (-60) (Or.inl ⟨rfl, rfl, rfl, rfl, j, hj, Nat.zero_le _, hx0⟩)
  obtain ⟨fb, fv⟩ := flat_body w hw1 (by omega)
  have hu := all_up v w hw
  have hl := flat_len w
  have hup := up_l0 (flatL w) c (by omega) fv.each v.each n1 0 (by omega) r 0 (Nat.zero_le _) 0 (by omega) (by rw [List.drop_zero, hu]; exact e2)
  refine ⟨r, ?_, e3, ?_⟩
  · unfold impl_StackBodies.f
    refine Ev.bind fb (ifp (Eq.refl true) (Ev.bind hb (ifp (Eq.refl true) (somb (within_eq _ _ _) (ifp (decide_eq_true (by omega)) ?_)))))
    rw [w64 (by omega) (by omega), decide_eq_false (show ¬ (((flatL w).length : Int) + (c.length : Int) > 12) by omega)]
    exact Ev.step (fun k => by simp only [impl_StackBodies.j0]; exact rfl) (ifn Bool.false_ne_true hup)
  · obtain ⟨l1, l2, l3, l4⟩ := small_mul (c.length : Int) g (by omega) (by omega)
    obtain ⟨h1, h2, h3, h4⟩ := small_mul (c.length : Int) h (by omega) (by omega)
    have key : Ev (fun k => impl_bodySide.f k c) (if m < g * (2 * (c.length : Int)) then -1 else if m > h * (2 * (c.length : Int)) then 1 else 0) := by
      have w2 : wrap64 (2 * (c.length : Int)) = 2 * (c.length : Int) := w64 (by omega) (by omega)
      have wl : wrap64 (g * (2 * (c.length : Int))) = g * (2 * (c.length : Int)) := w64 (by omega) (by omega)
      have wh : wrap64 (h * (2 * (c.length : Int))) = h * (2 * (c.length : Int)) := w64 (by omega) (by omega)
      unfold impl_bodySide.f
      refine Ev.bind (show Ev (fun k => impl_groundOf.f k c) (g, h) from e1) (Ev.bind m2 ?_)
      rw [w2, wl, wh]
      by_cases c1 : m < g * (2 * (c.length : Int))
      · exact ifp c1 (done (by rw [if_pos c1]))
      · by_cases c2 : m > h * (2 * (c.length : Int))
        · exact ifn c1 (ifp c2 (done (by rw [if_neg c1, if_pos c2])))
        · exact ifn c1 (ifn c2 (done (by rw [if_neg c1, if_neg c2])))
    rw [e4, ev_fun hs key]
    by_cases c1 : m < g * (2 * (c.length : Int))
    · rw [if_pos c1, decide_eq_false (by omega)]; rfl
    · rw [if_neg c1]
      by_cases c2 : m > h * (2 * (c.length : Int))
      · rw [if_pos c2, decide_eq_false (by omega)]; rfl
      · rw [if_neg c2, decide_eq_true (by omega)]; rfl
end Go.Proofs.Ytckhmeadflafaaa.PureFlat
