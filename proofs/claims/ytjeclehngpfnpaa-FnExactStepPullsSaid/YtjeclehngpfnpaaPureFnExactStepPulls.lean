/- The plain law of FnExactStepPulls: fractions in their lowest terms are the same if they stand for the same number. No conditions. -/
import Derived.Test.YtjeclehngpfnpaaStatFnExactStepPulls
import Derived.Test.YtjeclehngpfnpaaStage
import Derived.Test.YtjeclehngpfnpaaMarkStages
import Derived.Test.YtjeclehngpfnpaaMarkCells
namespace Go.Proofs.Ytjeclehngpfnpaa.fnExactStepPulls
open Go.RowKit Go.Proofs.Ytjeclehngpfnpaa.XAll Go.Proofs.Ytjeclehngpfnpaa.Plain Go.Proofs.Ytjeclehngpfnpaa.PureStage Go.Proofs.Ytjeclehngpfnpaa.PureMarkStages Go.Proofs.Ytjeclehngpfnpaa.PureMarkCells Go.Proofs.YtjeclehngpfnpaaW.PrintWords Go.Proofs.YtjeclehngpfnpaaW.PrintLast Go.Proofs.YtjeclehngpfnpaaW.PrintMore
set_option linter.unusedVariables false
set_option linter.unusedSimpArgs false
theorem nat_lowest {a b c d : Nat} (hb : 0 < b) (hd : 0 < d) (h : a * d = c * b) : a / Nat.gcd a b = c / Nat.gcd c d ∧ b / Nat.gcd a b = d / Nat.gcd c d := by
  have g0 : 0 < Nat.gcd a b := Nat.gcd_pos_of_pos_right _ hb
  have g1 : 0 < Nat.gcd c d := Nat.gcd_pos_of_pos_right _ hd
  obtain ⟨p, hp⟩ := Nat.gcd_dvd_left a b
  obtain ⟨q, hq⟩ := Nat.gcd_dvd_right a b
  obtain ⟨u, hu⟩ := Nat.gcd_dvd_left c d
  obtain ⟨v, hv⟩ := Nat.gcd_dvd_right c d
  have cp : Nat.Coprime (a / Nat.gcd a b) (b / Nat.gcd a b) := Nat.coprime_div_gcd_div_gcd g0
  have cq : Nat.Coprime (c / Nat.gcd c d) (d / Nat.gcd c d) := Nat.coprime_div_gcd_div_gcd g1
  have ep : a / Nat.gcd a b = p := Nat.div_eq_of_eq_mul_right g0 hp
  have eq : b / Nat.gcd a b = q := Nat.div_eq_of_eq_mul_right g0 hq
  have eu : c / Nat.gcd c d = u := Nat.div_eq_of_eq_mul_right g1 hu
  have ev : d / Nat.gcd c d = v := Nat.div_eq_of_eq_mul_right g1 hv
  rw [ep, eq] at cp
  rw [eu, ev] at cq
  rw [ep, eq, eu, ev]
  generalize Nat.gcd a b = g at *
  generalize Nat.gcd c d = k at *
  subst hp hq hu hv
  have h2 : p * v = u * q := by
    have e1 : g * p * (k * v) = (g * k) * (p * v) := by simp only [Nat.mul_assoc, Nat.mul_left_comm, Nat.mul_comm]
    have e2 : k * u * (g * q) = (g * k) * (u * q) := by simp only [Nat.mul_assoc, Nat.mul_left_comm, Nat.mul_comm]
    rw [e1, e2] at h
    exact Nat.eq_of_mul_eq_mul_left (Nat.mul_pos g0 g1) h
  constructor
  · apply Nat.dvd_antisymm
    · exact cp.dvd_of_dvd_mul_right (by rw [← h2]; exact Nat.dvd_mul_right _ _)
    · exact cq.dvd_of_dvd_mul_right (by rw [h2]; exact Nat.dvd_mul_right _ _)
  · apply Nat.dvd_antisymm
    · exact cp.symm.dvd_of_dvd_mul_left (by rw [h2]; exact Nat.dvd_mul_left _ _)
    · exact cq.symm.dvd_of_dvd_mul_left (by rw [← h2]; exact Nat.dvd_mul_left _ _)
theorem cut_same {a b c d : Int} (ha : 0 ≤ a) (hb : 1 ≤ b) (hc : 0 ≤ c) (hd : 1 ≤ d) (h : a * d = c * b) : cut a b = cut c d := by
  obtain ⟨a, rfl⟩ := Int.eq_ofNat_of_zero_le ha
  obtain ⟨b, rfl⟩ := Int.eq_ofNat_of_zero_le (show 0 ≤ b by omega)
  obtain ⟨c, rfl⟩ := Int.eq_ofNat_of_zero_le hc
  obtain ⟨d, rfl⟩ := Int.eq_ofNat_of_zero_le (show 0 ≤ d by omega)
  have h' : a * d = c * b := by exact_mod_cast h
  obtain ⟨e1, e2⟩ := nat_lowest (by omega) (by omega) h'
  unfold cut PureStage.gd
  simp only [Int.toNat_natCast]
  rw [← Int.natCast_ediv, ← Int.natCast_ediv, ← Int.natCast_ediv, ← Int.natCast_ediv, e1, e2]
theorem cut_mul {a b : Int} (ha : 0 ≤ a) (hb : 1 ≤ b) : ∃ g : Int, 1 ≤ g ∧ a = g * (cut a b).1 ∧ b = g * (cut a b).2 := by
  refine ⟨gd a b, gd_pos hb, ?_, ?_⟩
  · exact (Int.mul_ediv_cancel' (gd_dvd_left b ha)).symm
  · exact (Int.mul_ediv_cancel' (gd_dvd_right a (by omega))).symm
theorem cut_one {a : Int} (ha : 0 ≤ a) : cut a 1 = (a, 1) := by
  unfold cut PureStage.gd
  simp
/-- The pull behind one more stage. -/
theorem step_same {p n d N D : Int} (hp : 0 ≤ p) (hn : 1 ≤ n) (hd : 1 ≤ d) (hN : 1 ≤ N) (hD : 1 ≤ D) : cut ((cut (p * D) N).1 * d) ((cut (p * D) N).2 * n) = cut (p * (cut (N * n) (D * d)).2) (cut (N * n) (D * d)).1 := by
  have pD : 0 ≤ p * D := Int.mul_nonneg hp (by omega)
  have Nn : 1 ≤ N * n := (mul_le hN (Int.le_refl _) hn (Int.le_refl _)).1
  have Dd : 1 ≤ D * d := (mul_le hD (Int.le_refl _) hd (Int.le_refl _)).1
  obtain ⟨h, h1, h2, h3⟩ := cut_mul pD hN
  obtain ⟨g, g1, g2, g3⟩ := cut_mul (show 0 ≤ N * n by omega) Dd
  have q1 := (cut_range Nn (Int.le_refl _) Dd (Int.le_refl _))
  generalize hA : (cut (p * D) N).1 = A at *
  generalize hB : (cut (p * D) N).2 = B at *
  generalize hU : (cut (N * n) (D * d)).1 = U at *
  generalize hV : (cut (N * n) (D * d)).2 = V at *
  have hA0 : 0 ≤ A := by
    rw [← hA]; exact Int.ediv_nonneg pD (by have := gd_pos (a := p * D) hN; omega)
  have hB1 : 1 ≤ B := by
    have : 0 < h * B := by omega
    rcases Int.lt_or_le 0 B with hh | hh
    · omega
    · have := Int.mul_le_mul_of_nonneg_left hh (show 0 ≤ h by omega)
      omega
  refine cut_same (Int.mul_nonneg hA0 (by omega)) ((mul_le hB1 (Int.le_refl _) hn (Int.le_refl _)).1) (Int.mul_nonneg hp (by omega)) q1.1.1 ?_
  have e : (g * h) * (A * d * U) = (g * h) * (p * V * (B * n)) := by
    have l1 : (g * h) * (A * d * U) = (h * A) * d * (g * U) := by simp only [Int.mul_assoc, Int.mul_left_comm, Int.mul_comm]
    have l2 : (g * h) * (p * V * (B * n)) = p * (g * V) * ((h * B) * n) := by simp only [Int.mul_assoc, Int.mul_left_comm, Int.mul_comm]
    rw [l1, l2, ← h2, ← g2, ← g3, ← h3]
    simp only [Int.mul_assoc, Int.mul_left_comm, Int.mul_comm]
  exact Int.eq_of_mul_eq_mul_left (by have := Int.mul_pos (show 0 < g by omega) (show 0 < h by omega); omega) e
theorem take_V {l : List St} (h : ChainV l) (i : Nat) : ChainV (l.take i) := ⟨by rw [List.length_take]; have := h.n; omega, fun x hx => h.each x (List.mem_of_mem_take hx)⟩
theorem loops {l : List St} (h : ChainV l) (p : Int) (hp : 0 ≤ p ∧ p ≤ 1000000) : ∀ i, i ≤ l.length → ∀ xs : List Ce, xs.length = i + 1 → ∃ r : List Ce × Bool, Ev (fun k => spec_StepPulls.l0 k l p xs (i : Int)) r ∧ Ev (fun k => impl_StepPulls.l0 k xs l (l.length : Int) (i : Int) (cut (p * (cg (l.take i)).2) (cg (l.take i)).1).1 (cut (p * (cg (l.take i)).2) (cg (l.take i)).1).2) r ∧ r.1.length ≤ 6 := by
  have hn := h.n
  refine downTo l.length ?_ ?_
  · intro xs hx
    exact ⟨(xs, true), Ev.step (fun k => by simp only [spec_StepPulls.l0]; exact rfl) (ifn (by omega) (done rfl)), Ev.step (fun k => by simp only [impl_StepPulls.l0]; exact rfl) (ifn (by omega) (done rfl)), by show xs.length ≤ 6; omega⟩
  · intro i hi ih xs hx
    have hi0 : 0 ≤ (i : Int) := by omega
    have hil : (i : Int) < (l.length : Int) := by omega
    have hxl : xs.length < 8796093022208 := by omega
    have hw : wrap64 ((i : Int) + 1) = ((i + 1 : Nat) : Int) := wrapS hi (by omega)
    have hok := h.each l[i] (List.getElem_mem hi)
    obtain ⟨⟨s1, s2⟩, s3, s4⟩ := sg_range hok
    obtain ⟨⟨a1, a2⟩, a3, a4⟩ := cg_range (take_V h i)
    obtain ⟨⟨b1, b2⟩, b3, b4⟩ := cg_range (take_V h (i + 1))
    have ecg : cg (l.take (i + 1)) = cut ((cg (l.take i)).1 * (sg l[i]).1) ((cg (l.take i)).2 * (sg l[i]).2) := by
      unfold cg
      rw [take_succ hi, List.foldl_append]
      rfl
    have key := step_same hp.1 s1 s3 a1 a3 (p := p)
    rw [← ecg] at key
    obtain ⟨r, e1, e2, e3⟩ := ih (xs ++ [⟨(cut (p * (cg (l.take (i + 1))).2) (cg (l.take (i + 1))).1).1, (cut (p * (cg (l.take (i + 1))).2) (cg (l.take (i + 1))).1).2⟩]) (by simp [hx])
    have m0 : 0 ≤ p * (cg (l.take (i + 1))).2 := Int.mul_nonneg hp.1 (by omega)
    have m1 : p * (cg (l.take (i + 1))).2 ≤ 1000000 * 7962624 := Int.mul_le_mul hp.2 b4 (by omega) (by omega)
    have m2 : 0 ≤ p * (cg (l.take i)).2 := Int.mul_nonneg hp.1 (by omega)
    have m3 : p * (cg (l.take i)).2 ≤ 1000000 * 7962624 := Int.mul_le_mul hp.2 a4 (by omega) (by omega)
    have gp := gd_pos (a := p * (cg (l.take i)).2) a1
    have n0 : 0 ≤ (cut (p * (cg (l.take i)).2) (cg (l.take i)).1).1 := Int.ediv_nonneg m2 (by omega)
    have n1 : (cut (p * (cg (l.take i)).2) (cg (l.take i)).1).1 ≤ 1000000 * 7962624 := Int.le_trans (Int.ediv_le_self _ m2) m3
    have d0 : 0 < (cut (p * (cg (l.take i)).2) (cg (l.take i)).1).2 := Int.ediv_pos_of_pos_of_dvd (by omega) (by omega) (gd_dvd_right _ (by omega))
    have d1 : (cut (p * (cg (l.take i)).2) (cg (l.take i)).1).2 ≤ 254803968 := Int.le_trans (Int.ediv_le_self _ (by omega)) a2
    generalize hX : (cut (p * (cg (l.take i)).2) (cg (l.take i)).1).1 = X at *
    generalize hY : (cut (p * (cg (l.take i)).2) (cg (l.take i)).1).2 = Y at *
    have x0 : 0 ≤ X * (sg l[i]).2 := Int.mul_nonneg n0 (by omega)
    have x1 : X * (sg l[i]).2 ≤ (1000000 * 7962624) * 24 := Int.mul_le_mul n1 s4 (by omega) (by omega)
    obtain ⟨y0, y1⟩ := mul_le (show 1 ≤ Y by omega) d1 s1 s2
    refine ⟨r, Ev.step (fun k => by simp only [spec_StepPulls.l0]; exact rfl) (ifp hil ?_), Ev.step (fun k => by simp only [impl_StepPulls.l0]; exact rfl) (ifp hil (ifp hi0 (ifp hil ?_))), e3⟩
    · rw [hw, Int.toNat_natCast]
      refine ifp (by omega) (ifp (by omega) (Ev.bind (l7Chain_ev (take_V h (i + 1))) ?_))
      rw [w64 (x := p * (cg (l.take (i + 1))).2) (by omega) (by omega)]
      exact Ev.bind (l2Cut_ev m0 (by omega) b1 (by omega)) (ifp hxl e1)
    · rw [rdS hi]
      refine Ev.bind (stageGain_ev hok) ?_
      rw [w64 (x := X * (sg l[i]).2) (by omega) (by omega), w64 (x := Y * (sg l[i]).1) (by omega) (by omega), hw]
      have f := fraction_ev x0 (by omega) y0 (by omega)
      rw [key] at f
      exact Ev.bind f (ifp hxl e2)
theorem both (l : List St) (hn : l.length ≤ 140737488355328) (p : Int) : ∃ r : List Ce × Bool, Ev (fun k => spec_StepPulls.f k l p) r ∧ Ev (fun k => impl_StepPulls.f k l p) r ∧ r.1.length ≤ 6 := by
  have h1 := l7Ask_ev l p hn
  have h2 := isChain_ev l hn
  unfold spec_StepPulls.f impl_StepPulls.f
  have no : Ev (fun k => impl_StepPulls.j0 k l p true) ([], false) := Ev.step (fun k => by simp only [impl_StepPulls.j0]; exact rfl) (ifp (Eq.refl true) (done rfl))
  cases hr : ChainOK l 5 with
  | false =>
    rw [hr] at h1 h2
    exact ⟨([], false), Ev.bind h1 (ifn Bool.false_ne_true (done rfl)), Ev.bind h2 (ifn Bool.false_ne_true no), by simp⟩
  | true =>
    cases hp : Hl p with
    | false =>
      rw [hr, hp] at h1
      rw [hr] at h2
      refine ⟨([], false), Ev.bind h1 (ifn Bool.false_ne_true (done rfl)), Ev.bind h2 (ifp (Eq.refl true) (somb (isHaul_eq p) ?_)), by simp⟩
      rw [hp]; exact no
    | true =>
      rw [hr, hp] at h1
      rw [hr] at h2
      have hb : 0 ≤ p ∧ p ≤ 1000000 := of_decide_eq_true hp
      obtain ⟨r, e1, e2, e3⟩ := loops (chainV hr) p hb 0 (Nat.zero_le _) [⟨p, 1⟩] rfl
      have e0 : cut (p * (cg (l.take 0)).2) (cg (l.take 0)).1 = (p, 1) := by
        show cut (p * 1) 1 = (p, 1)
        rw [Int.mul_one]; exact cut_one hb.1
      rw [e0] at e2
      refine ⟨r, Ev.bind h1 (ifp (Eq.refl true) e1), Ev.bind h2 (ifp (Eq.refl true) (somb (isHaul_eq p) ?_)), e3⟩
      rw [hp]
      exact Ev.step (fun k => by simp only [impl_StepPulls.j0]; exact rfl) (ifn (by decide) e2)
theorem pure : Pure := by
  intro l p hl _ _
  obtain ⟨t, ht, hlen⟩ := szStageS_eq l (by omega)
  refine Ev.rounds ?_
  unfold laws_FnExactStepPulls.f
  refine somb ht (ifc (fun _ => done rfl) fun hneg => ?_)
  have hm := hlen hneg
  have hto := toStageS_ev l (by omega)
  have hcl : (l.map cv).length ≤ 1048576 := by rw [List.length_map]; omega
  obtain ⟨r, e1, e2, hr⟩ := both (l.map cv) (by omega) p
  have q := eqA2S_ev r.1 (by omega)
  obtain ⟨R1, m1⟩ := markStageS_ev (l.map cv) hcl 1 (by omega) (by omega)
  obtain ⟨R3, m3, m3l, m3r⟩ := markIntA2S_ev r.1 (by omega) 1 (by omega) (by omega)
  have h3 := heldIntA2S_ev R3 r.1.length m3l (by omega) 1 (by omega) (by omega) m3r
  have hneg : ¬ (1 + ((2 * r.1.length : Nat) : Int)) < 0 := by omega
  have hneg2 : ¬ (1 + ((3 * (l.map cv).length : Nat) : Int)) < 0 := by omega
  have last : Ev (fun k => laws_FnExactStepPulls.j2 k R3 (1 + ((2 * r.1.length : Nat) : Int)) (r.2 != r.2)) true := by
    refine Ev.step (fun k => by simp only [laws_FnExactStepPulls.j2]; exact rfl) (ifn (by simp) (Ev.bind h3 (ifn hneg ?_)))
    exact ifp rfl (done rfl)
  have mid : Ev (fun k => laws_FnExactStepPulls.j1 k l p r.1 r.2 r.1 (r.2 != r.2)) true := by
    refine Ev.step (fun k => by simp only [laws_FnExactStepPulls.j1]; exact rfl) (ifn (by simp) (Ev.bind m3 (Ev.bind h3 (ifn hneg (ifp rfl (Ev.bind hto (Ev.bind e2 (Ev.bind q ?_))))))))
    exact ifp (Eq.refl true) last
  refine Ev.bind hto (Ev.bind e1 (Ev.bind hto (Ev.bind e2 (Ev.bind q (ifp (Eq.refl true) ?_)))))
  refine Ev.step (fun k => by simp only [laws_FnExactStepPulls.j0]; exact rfl) (ifn (by simp) (Ev.bind hto (Ev.bind (eqStageS_ev (l.map cv) (by omega)) (ifp (Eq.refl true) (Ev.bind m1 (ifn hneg2 (Ev.bind q ?_)))))))
  exact ifp (Eq.refl true) mid
end Go.Proofs.Ytjeclehngpfnpaa.fnExactStepPulls
