/- One body laid on another one, in the program and in the reference, as wholes. No conditions beyond those of the lemmas' own hypotheses. -/
import Derived.Test.YtckhmeadflafaaaStack
namespace Go.Proofs.Ytckhmeadflafaaa.PureStackBoth
open Go.RowKit Go.Proofs.Ytckhmeadflafaaa.XFs Go.Proofs.Ytckhmeadflafaaa.Plain Go.Proofs.Ytckhmeadflafaaa.PureCells Go.Proofs.Ytckhmeadflafaaa.PureBody Go.Proofs.Ytckhmeadflafaaa.PurePut Go.Proofs.Ytckhmeadflafaaa.PureHang Go.Proofs.Ytckhmeadflafaaa.PureLoose Go.Proofs.Ytckhmeadflafaaa.PureReach Go.Proofs.Ytckhmeadflafaaa.PureGround Go.Proofs.Ytckhmeadflafaaa.PureStack Go.Proofs.Ytckhmeadflafaaa.PureHas Go.Proofs.YtckhmeadflafaaaW.PrintWords Go.Proofs.YtckhmeadflafaaaW.PrintLast Go.Proofs.YtckhmeadflafaaaW.PrintMore
set_option linter.unusedVariables false
theorem evp {α : Type} {c : Prop} [Decidable c] {g f : Nat → Option α} {r : α} (h : c) (k : Ev (fun n => if c then g n else f n) r) : Ev g r := by
  simpa only [if_pos h] using k
theorem evn {α : Type} {c : Prop} [Decidable c] {g f : Nat → Option α} {r : α} (h : ¬ c) (k : Ev (fun n => if c then g n else f n) r) : Ev f r := by
  simpa only [if_neg h] using k
theorem small_mul (N x : Int) (hN : 1 ≤ N ∧ N ≤ 12) (hx : -100 ≤ x ∧ x ≤ 100) : -2400 ≤ x * (2 * N) ∧ x * (2 * N) ≤ 2400 ∧ 2 * N * x = x * (2 * N) ∧ 2 * x * N = x * (2 * N) := by
  have hN' : N = 1 ∨ N = 2 ∨ N = 3 ∨ N = 4 ∨ N = 5 ∨ N = 6 ∨ N = 7 ∨ N = 8 ∨ N = 9 ∨ N = 10 ∨ N = 11 ∨ N = 12 := by omega
  rcases hN' with rfl | rfl | rfl | rfl | rfl | rfl | rfl | rfl | rfl | rfl | rfl | rfl <;> refine ⟨?_, ?_, ?_, ?_⟩ <;> omega
theorem over_eq (m N d lo hi : Int) (hN : 1 ≤ N ∧ N ≤ 12) (hm : 0 ≤ m ∧ m ≤ 300) (hd : -12 ≤ d ∧ d ≤ 12) (hl : -60 ≤ lo ∧ lo ≤ 60) (hh : -60 ≤ hi ∧ hi ≤ 60) : spec_l8Over.f (wrap64 (m + wrap64 (wrap64 (2 * d) * N))) N lo hi = some (if m + d * (2 * N) < lo * (2 * N) then -1 else if m + d * (2 * N) > hi * (2 * N) then 1 else 0) := by
  obtain ⟨d1, d2, d3, d4⟩ := small_mul N d hN (by omega)
  obtain ⟨l1, l2, l3, l4⟩ := small_mul N lo hN (by omega)
  obtain ⟨h1, h2, h3, h4⟩ := small_mul N hi hN (by omega)
  unfold spec_l8Over.f
  rw [w64 (x := 2 * d) (by omega) (by omega), w64 (x := 2 * N) (by omega) (by omega), d4, l3, h3, w64 (x := d * (2 * N)) (by omega) (by omega), w64 (x := lo * (2 * N)) (by omega) (by omega), w64 (x := hi * (2 * N)) (by omega) (by omega), w64 (x := m + d * (2 * N)) (by omega) (by omega)]
  by_cases c1 : m + d * (2 * N) < lo * (2 * N)
  · rw [if_pos c1, if_pos c1]
  · rw [if_neg c1, if_neg c1]
    by_cases c2 : m + d * (2 * N) > hi * (2 * N)
    · rw [if_pos c2, if_pos c2]
    · rw [if_neg c2, if_neg c2]
def Rel (low high from_ to_ : Int) : Prop := (low = 100 ∧ high = -100 ∧ from_ = 60 ∧ to_ = -60) ∨ (low = from_ ∧ high = to_ ∧ low < high ∧ -12 ≤ low ∧ low ≤ 24 ∧ -12 ≤ high ∧ high ≤ 25)
def mvd (d U : Int) (c : Cl) : Cl := ⟨c.f0 + d, c.f1 + U⟩
theorem fin (a b : List Cl) (va : BodyV a) (vb : BodyV b) (d U : Int) (hd : -12 ≤ d ∧ d ≤ 12) (hU : 0 ≤ U ∧ U ≤ 13) (hno : meets a b d U = false) (low high from_ to_ : Int) (hr : Rel low high from_ to_) : ∃ r : List Cl × Bool × Bool, Ev (fun k => spec_StackBodies.l1 k a b d U (a ++ b.map (mvd d U)) low high (b.length : Int)) r ∧ (a.length + b.length ≤ 12 → Ev (fun k => impl_StackBodies.l2 k a b d U (a ++ b.map (mvd d U)) from_ to_ b (b.length : Int) (b.length : Int)) r) ∧ (¬ a.length + b.length ≤ 12 → r = ([], false, false)) ∧ r.1.length ≤ 12 ∧ (r.2.2 = true → r.1.length = a.length + b.length ∧ Ev (fun k => impl_IsBody.f k r.1) true) := by
  have hlen : (a ++ b.map (mvd d U)).length = a.length + b.length := by simp
  have b1 := vb.n1
  have b0 := vb.n0
  have a0 := va.n0
  by_cases ht : a.length + b.length ≤ 12
  · have hnd : (a ++ b.map (mvd d U)).Nodup := by
      have hna : a.Nodup := (pairs va.sorted).imp (fun {x y} h e => by subst e; unfold Bf at h; rw [bef_iff] at h; omega)
      have hnb : b.Nodup := (pairs vb.sorted).imp (fun {x y} h e => by subst e; unfold Bf at h; rw [bef_iff] at h; omega)
      have hnm : (b.map (mvd d U)).Nodup := nodup_map (fun x y h => by
        unfold mvd at h; injection h with h1 h2; cases x; cases y; simp only at h1 h2; congr 1 <;> omega) hnb
      unfold List.Nodup at *
      refine List.pairwise_append.2 ⟨hna, hnm, fun x hx y hy e => ?_⟩
      obtain ⟨c, hc, rfl⟩ := List.mem_map.1 hy
      have : meets a b d U = true := (meets_iff a b d U).2 ⟨c, hc, x, hx, by rw [e]; rfl, by rw [e]; exact Int.le_refl _⟩
      rw [hno] at this; cases this
    have hs : ∀ x ∈ a ++ b.map (mvd d U), Small x := by
      intro x hx
      rcases List.mem_append.1 hx with hx | hx
      · exact (va.each x hx).small
      · obtain ⟨c, hc, rfl⟩ := List.mem_map.1 hx
        obtain ⟨⟨k1, k2⟩, k3, k4⟩ := vb.each c hc
        exact ⟨⟨by show -1000000 ≤ c.f0 + d; omega, by show c.f0 + d ≤ 1000000; omega⟩, by show -1000000 ≤ c.f1 + U; omega, by show c.f1 + U ≤ 1000000; omega⟩
    have h0 : 0 < (a ++ b.map (mvd d U)).length := by omega
    obtain ⟨r0, e1, e2, e3⟩ := put_body h0 (by omega) hs hnd
    have hp := put_ev _ h0 (by omega) hs
    have hdn := l8Down_ev _ h0 (by omega) hs
    have hpl := pd_len _ h0
    cases r0 with
    | false =>
      refine ⟨([], false, false), Ev.step (fun k => by simp only [spec_StackBodies.l1]; exact rfl) (ifn (by omega) (ifn (by omega) (Ev.bind e1 ?_))), fun _ => Ev.step (fun k => by simp only [impl_StackBodies.l2]; exact rfl) (ifn (by omega) (Ev.bind hp (Ev.bind e2 ?_))), fun h => absurd ht h, by simp, fun h => absurd h Bool.false_ne_true⟩
      · show Ev (fun k => spec_StackBodies.j3 k b d (a ++ b.map (mvd d U)) low high true) _
        exact Ev.step (fun k => by simp only [spec_StackBodies.j3]; exact rfl) (ifp (Eq.refl true) (done rfl))
      · exact ifn Bool.false_ne_true (done rfl)
    | true =>
      obtain ⟨m, m1, m2, m3, m4⟩ := middle0_ev b b1 vb.each
      rcases hr with ⟨rfl, rfl, rfl, rfl⟩ | ⟨rfl, rfl, k1, k2, k3, k4, k5⟩
      · refine ⟨(pd _ h0, false, true), Ev.step (fun k => by simp only [spec_StackBodies.l1]; exact rfl) (ifn (by omega) (ifn (by omega) (Ev.bind e1 ?_))), fun _ => Ev.step (fun k => by simp only [impl_StackBodies.l2]; exact rfl) (ifn (by omega) (Ev.bind hp (Ev.bind e2 ?_))), fun h => absurd ht h, by show (pd _ h0).length ≤ 12; omega, fun _ => ⟨by show (pd _ h0).length = _; omega, e2⟩⟩
        rotate_left
        · refine ifp (Eq.refl true) (Ev.bind m2 ?_)
          exact ifn (show ¬ ((60 : Int) ≤ -60) by omega) (done rfl)
        show Ev (fun k => spec_StackBodies.j3 k b d (a ++ b.map (mvd d U)) 100 (-100) false) _
        refine Ev.step (fun k => by simp only [spec_StackBodies.j3]; exact rfl) ?_
        refine ifn Bool.false_ne_true (ifn (by omega) (Ev.bind hdn ?_))
        exact done rfl
      · have ho := over_eq m (b.length : Int) d low high (by omega) ⟨m3, m4⟩ hd (by omega) (by omega)
        obtain ⟨d1, d2, d3, d4⟩ := small_mul (b.length : Int) d (by omega) (by omega)
        obtain ⟨l1, l2, l3, l4⟩ := small_mul (b.length : Int) low (by omega) (by omega)
        obtain ⟨h1, h2, h3, h4⟩ := small_mul (b.length : Int) high (by omega) (by omega)
        have w2 : wrap64 (2 * (b.length : Int)) = 2 * (b.length : Int) := w64 (by omega) (by omega)
        have wl : wrap64 (low * (2 * (b.length : Int))) = low * (2 * (b.length : Int)) := w64 (by omega) (by omega)
        have wh : wrap64 (high * (2 * (b.length : Int))) = high * (2 * (b.length : Int)) := w64 (by omega) (by omega)
        have wd : wrap64 (2 * (b.length : Int) * d) = d * (2 * (b.length : Int)) := by rw [d3]; exact w64 (by omega) (by omega)
        have wm : wrap64 (m + d * (2 * (b.length : Int))) = m + d * (2 * (b.length : Int)) := w64 (by omega) (by omega)
        refine ⟨(pd _ h0, ((if m + d * (2 * (b.length : Int)) < low * (2 * (b.length : Int)) then -1 else if m + d * (2 * (b.length : Int)) > high * (2 * (b.length : Int)) then 1 else (0 : Int)) == 0), true), Ev.step (fun k => by simp only [spec_StackBodies.l1]; exact rfl) (ifn (by omega) (ifn (by omega) (Ev.bind e1 ?_))), fun _ => Ev.step (fun k => by simp only [impl_StackBodies.l2]; exact rfl) (ifn (by omega) (Ev.bind hp (Ev.bind e2 ?_))), fun h => absurd ht h, by show (pd _ h0).length ≤ 12; omega, fun _ => ⟨by show (pd _ h0).length = _; omega, e2⟩⟩
        · show Ev (fun k => spec_StackBodies.j3 k b d (a ++ b.map (mvd d U)) low high false) _
          refine Ev.step (fun k => by simp only [spec_StackBodies.j3]; exact rfl) ?_
          refine ifn Bool.false_ne_true (ifp k1 (Ev.bind m1 (somb ho (Ev.bind hdn ?_))))
          exact done rfl
        · refine ifp (Eq.refl true) (Ev.bind m2 ?_)
          refine ifp (show low ≤ high by omega) ?_
          rw [w2, wl, wh, wd, wm]
          by_cases c1 : m + d * (2 * (b.length : Int)) < low * (2 * (b.length : Int))
          · rw [if_pos c1]
            exact ifn (by omega) (done rfl)
          · rw [if_neg c1]
            refine ifp (by omega) ?_
            by_cases c2 : m + d * (2 * (b.length : Int)) > high * (2 * (b.length : Int))
            · rw [if_pos c2, decide_eq_false (show ¬ (m + d * (2 * (b.length : Int)) ≤ high * (2 * (b.length : Int))) by omega)]
              exact done rfl
            · rw [if_neg c2, decide_eq_true (show m + d * (2 * (b.length : Int)) ≤ high * (2 * (b.length : Int)) by omega)]
              exact done rfl
  · refine ⟨([], false, false), Ev.step (fun k => by simp only [spec_StackBodies.l1]; exact rfl) (ifn (by omega) (ifp (by rw [hlen]; omega) ?_)), fun h => absurd h ht, fun _ => rfl, by simp, fun h => absurd h Bool.false_ne_true⟩
    exact Ev.step (fun k => by simp only [spec_StackBodies.j3]; exact rfl) (ifp (Eq.refl true) (done rfl))
theorem lay (a b : List Cl) (va : BodyV a) (vb : BodyV b) (d U : Int) (hd : -12 ≤ d ∧ d ≤ 12) (hU : 0 ≤ U ∧ U ≤ 13) (hno : meets a b d U = false) : ∀ i, i ≤ b.length → ∀ acc : List Cl, acc = a ++ (b.take i).map (mvd d U) → ∀ low high from_ to_ : Int, Rel low high from_ to_ → ∃ r : List Cl × Bool × Bool, Ev (fun k => spec_StackBodies.l1 k a b d U acc low high (i : Int)) r ∧ (a.length + b.length ≤ 12 → Ev (fun k => impl_StackBodies.l2 k a b d U acc from_ to_ b (b.length : Int) (i : Int)) r) ∧ (¬ a.length + b.length ≤ 12 → r = ([], false, false)) ∧ r.1.length ≤ 12 ∧ (r.2.2 = true → r.1.length = a.length + b.length ∧ Ev (fun k => impl_IsBody.f k r.1) true) := by
  have b1 := vb.n1
  have a1 := va.n1
  refine downTo b.length ?_ ?_
  · intro acc hacc low high from_ to_ hr
    subst hacc
    rw [List.take_length]
    exact fin a b va vb d U hd hU hno low high from_ to_ hr
  · intro i hi ih acc hacc low high from_ to_ hr
    obtain ⟨⟨c1, c2⟩, c3, c4⟩ := vb.each b[i] (List.getElem_mem hi)
    have hal : acc.length < 8796093022208 := by rw [hacc]; simp; omega
    have hil : (i : Int) < (b.length : Int) := by omega
    have hi0 : 0 ≤ (i : Int) := by omega
    have w1 : wrap64 (b[i].f0 + d) = b[i].f0 + d := w64 (by omega) (by omega)
    have w2 : wrap64 (b[i].f1 + U) = b[i].f1 + U := w64 (by omega) (by omega)
    have w3 : wrap64 (b[i].f1 + U - 1) = b[i].f1 + U - 1 := w64 (by omega) (by omega)
    have w4 : wrap64 (b[i].f0 + d + 1) = b[i].f0 + d + 1 := w64 (by omega) (by omega)
    have hw : wrap64 ((i : Int) + 1) = ((i + 1 : Nat) : Int) := wrapS hi (by omega)
    have hnx : acc ++ [mvd d U b[i]] = a ++ (b.take (i + 1)).map (mvd d U) := by rw [hacc, take_succ hi, List.map_append, List.append_assoc]; rfl
    obtain ⟨t, t1, t2⟩ := has_ev a (by omega) (b[i].f0 + d) (b[i].f1 + U - 1)
    have hc := contains_ev a (by omega) (b[i].f0 + d) (b[i].f1 + U - 1)
    have hsp : ∀ r : List Cl × Bool × Bool, Ev (fun k => if t ≥ 0 then spec_StackBodies.l1 k a b d U (acc ++ [mvd d U b[i]]) (mn low (b[i].f0 + d)) (mx high (b[i].f0 + d + 1)) ((i + 1 : Nat) : Int) else spec_StackBodies.l1 k a b d U (acc ++ [mvd d U b[i]]) low high ((i + 1 : Nat) : Int)) r → Ev (fun k => spec_StackBodies.l1 k a b d U acc low high (i : Int)) r := by
      intro r h
      refine Ev.step (fun k => by simp only [spec_StackBodies.l1]; exact rfl) ?_
      refine ifp hil (ifp hi0 (ifp hal ?_))
      rw [rdC hi, w1, w2, w3, w4, hw]
      refine somb rfl ?_
      refine Ev.bind t1 ?_
      by_cases ht : t ≥ 0
      · exact ifp ht (somb (least_eq _ _) (somb (most_eq _ _) (evp ht h)))
      · exact ifn ht (evn ht h)
    have him : ∀ r : List Cl × Bool × Bool, Ev (fun k => if hsC a (b[i].f0 + d) (b[i].f1 + U - 1) = true then impl_StackBodies.l2 k a b d U (acc ++ [mvd d U b[i]]) (mn from_ (b[i].f0 + d)) (mx to_ (b[i].f0 + d + 1)) b (b.length : Int) ((i + 1 : Nat) : Int) else impl_StackBodies.l2 k a b d U (acc ++ [mvd d U b[i]]) from_ to_ b (b.length : Int) ((i + 1 : Nat) : Int)) r → Ev (fun k => impl_StackBodies.l2 k a b d U acc from_ to_ b (b.length : Int) (i : Int)) r := by
      intro r h
      refine Ev.step (fun k => by simp only [impl_StackBodies.l2]; exact rfl) ?_
      refine ifp hil (ifp hi0 (ifp hil ?_))
      rw [rdC hi, w1, w2, w3, w4, hw]
      refine Ev.bind hc ?_
      by_cases ht : hsC a (b[i].f0 + d) (b[i].f1 + U - 1) = true
      · exact ifp ht (ifp hal (evp ht h))
      · exact ifn ht (ifp hal (evn ht h))
    by_cases ht : hsC a (b[i].f0 + d) (b[i].f1 + U - 1) = true
    · have hrel : Rel (mn low (b[i].f0 + d)) (mx high (b[i].f0 + d + 1)) (mn from_ (b[i].f0 + d)) (mx to_ (b[i].f0 + d + 1)) := by
        right
        unfold mn mx
        rcases hr with ⟨rfl, rfl, rfl, rfl⟩ | ⟨rfl, rfl, k1, k2, k3, k4, k5⟩
        · rw [if_pos (by omega), if_pos (by omega), if_pos (by omega), if_pos (by omega)]
          omega
        · split <;> split <;> omega
      obtain ⟨r, e1, e2, e3⟩ := ih _ hnx _ _ _ _ hrel
      exact ⟨r, hsp r (ifp (t2.2 ht) e1), fun h => him r (ifp ht (e2 h)), e3⟩
    · obtain ⟨r, e1, e2, e3⟩ := ih _ hnx _ _ _ _ hr
      exact ⟨r, hsp r (ifn (fun h => ht (t2.1 h)) e1), fun h => him r (ifn ht (e2 h)), e3⟩
theorem both (a b : List Cl) (d : Int) (hna : a.length ≤ 1048576) (hnb : b.length ≤ 1048576) : ∃ r : List Cl × Bool × Bool, Ev (fun k => spec_StackBodies.f k a b d) r ∧ Ev (fun k => impl_StackBodies.f k a b d) r ∧ r.1.length ≤ 12 ∧ (r.2.2 = true → r.1.length = a.length + b.length ∧ Ev (fun k => impl_IsBody.f k r.1) true) := by
  obtain ⟨x, x1, x2, x3⟩ := isBody_ev a hna
  obtain ⟨y, y1, y2, y3⟩ := isBody_ev b hnb
  have nos : Ev (fun k => spec_StackBodies.j0 k a b d true) ([], false, false) := Ev.step (fun k => by simp only [spec_StackBodies.j0]; exact rfl) (ifp (Eq.refl true) (done rfl))
  have noi : Ev (fun k => impl_StackBodies.j0 k a b d true) ([], false, false) := Ev.step (fun k => by simp only [impl_StackBodies.j0]; exact rfl) (ifp (Eq.refl true) (done rfl))
  unfold spec_StackBodies.f impl_StackBodies.f
  cases x with
  | false => exact ⟨([], false, false), Ev.bind x1 (ifn Bool.false_ne_true nos), Ev.bind x2 (ifn Bool.false_ne_true noi), by simp, fun h => absurd h Bool.false_ne_true⟩
  | true =>
    cases y with
    | false => exact ⟨([], false, false), Ev.bind x1 (ifp (Eq.refl true) (Ev.bind y1 (ifn Bool.false_ne_true nos))), Ev.bind x2 (ifp (Eq.refl true) (Ev.bind y2 (ifn Bool.false_ne_true noi))), by simp, fun h => absurd h Bool.false_ne_true⟩
    | true =>
      have va := x3 rfl
      have vb := y3 rfl
      have a1 := va.n1
      have b1 := vb.n1
      by_cases hd : -12 ≤ d ∧ d ≤ 12
      · obtain ⟨u1, u2, u3⟩ := upO_spec d a b 0
        have hU : upO d a b 0 ≤ 13 := by
          rcases u3 with u3 | ⟨c, hc, e, he, _, u3⟩
          · omega
          · have := (va.each e he).2; have := (vb.each c hc).2; omega
        have hno : meets a b d (upO d a b 0) = false := by
          rw [← Bool.not_eq_true, meets_iff]
          rintro ⟨c, hc, e, he, k1, k2⟩
          have := u2 c hc e he k1
          omega
        have hyes : ∀ u, 0 ≤ u → u < upO d a b 0 → meets a b d u = true := by
          intro u h1 h2
          rw [meets_iff]
          rcases u3 with u3 | ⟨c, hc, e, he, k1, k2⟩
          · omega
          · exact ⟨c, hc, e, he, k1, by omega⟩
        obtain ⟨r, e1, e2, e3, e4⟩ := lay a b va vb d (upO d a b 0) hd ⟨u1, hU⟩ hno 0 (Nat.zero_le _) a (by simp) 100 (-100) 60 (-60) (Or.inl ⟨rfl, rfl, rfl, rfl⟩)
        have hs := up_search a b a1 va.each b1 vb.each d hd _ hU hno hyes r e1 (upO d a b 0).toNat 0 (Int.le_refl _) (by omega)
        refine ⟨r, Ev.bind x1 (ifp (Eq.refl true) (Ev.bind y1 (ifp (Eq.refl true) (somb (l1In_eq _ _ _) ?_)))), Ev.bind x2 (ifp (Eq.refl true) (Ev.bind y2 (ifp (Eq.refl true) (somb (within_eq _ _ _) (ifp (decide_eq_true hd) ?_))))), e4⟩
        · rw [decide_eq_true hd]
          exact Ev.step (fun k => by simp only [spec_StackBodies.j0]; exact rfl) (ifn Bool.false_ne_true hs)
        · rw [w64 (by omega) (by omega)]
          by_cases ht : a.length + b.length ≤ 12
          · rw [decide_eq_false (show ¬ ((a.length : Int) + (b.length : Int) > 12) by omega)]
            exact Ev.step (fun k => by simp only [impl_StackBodies.j0]; exact rfl) (ifn Bool.false_ne_true (up_l0 a b a1 va.each vb.each b1 d hd r 0 (Nat.zero_le _) 0 (by omega) (e2 ht)))
          · rw [decide_eq_true (show (a.length : Int) + (b.length : Int) > 12 by omega), e3 ht]
            exact noi
      · refine ⟨([], false, false), Ev.bind x1 (ifp (Eq.refl true) (Ev.bind y1 (ifp (Eq.refl true) (somb (l1In_eq _ _ _) ?_)))), Ev.bind x2 (ifp (Eq.refl true) (Ev.bind y2 (ifp (Eq.refl true) (somb (within_eq _ _ _) (ifn (by rw [decide_eq_false hd]; exact Bool.false_ne_true) noi))))), by simp, fun h => absurd h Bool.false_ne_true⟩
        rw [decide_eq_false hd]; exact nos
end Go.Proofs.Ytckhmeadflafaaa.PureStackBoth
