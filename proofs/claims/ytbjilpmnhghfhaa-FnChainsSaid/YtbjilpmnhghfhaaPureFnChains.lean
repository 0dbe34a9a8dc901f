/- The plain law of FnChains: what a chain pulls, hauls and gains fits together, and a lever pulls as its row says. No conditions. -/
import Derived.Test.YtbjilpmnhghfhaaChainVals
import Derived.Test.YtbjilpmnhghfhaaDrawStage
import Derived.Test.YtbjilpmnhghfhaaMoment
import Derived.Test.YtbjilpmnhghfhaaXChx19
namespace Go.Proofs.Ytbjilpmnhghfhaa.Pure
open Go.RowKit Go.Proofs.Ytbjilpmnhghfhaa.XCh Go.Proofs.Ytbjilpmnhghfhaa.Plain Go.Proofs.Ytbjilpmnhghfhaa.PureDraw Go.Proofs.Ytbjilpmnhghfhaa.PureDrawStage Go.Proofs.Ytbjilpmnhghfhaa.PureStage Go.Proofs.Ytbjilpmnhghfhaa.PureLows Go.Proofs.Ytbjilpmnhghfhaa.PureChainVals Go.Proofs.YtbjilpmnhghfhaaW.PrintWords Go.Proofs.YtbjilpmnhghfhaaW.PrintLast Go.Proofs.YtbjilpmnhghfhaaW.PrintMore
set_option linter.unusedVariables false
set_option linter.unusedSimpArgs false
abbrev Ld := PureRow.Ld
theorem DrawLeverRow_ev {l : List Int} (hl : Bytes l) : ∃ x y z w f : Int, Ev (fun k => spec_DrawLeverRow.f k l) (x, y, z, w, f) := by
  obtain ⟨x, y, z, a1, s1, e1, b0, b1⟩ := stage7_ev hl 0 0 (by omega) (by omega)
  obtain ⟨b, a2, s2, e2, b2, b3⟩ := one_ev hl a1 s1 (by omega) (by omega) 4 (by omega)
  have go : ∀ (u v t a s : Int), 0 ≤ a → a ≤ 1000 → ∃ x y z w f : Int, Ev (fun k => spec_DrawLeverRow.j0 k l a s u v t) (x, y, z, w, f) := by
    intro u v t a s h0 h1
    obtain ⟨n, a3, s3, e3, _, b4, b5⟩ := pick_ev hl a s h0 (by omega) 20 (by omega)
    have hq := sLeast_ev [⟨u, v, t⟩] (by simp) (wrap64 (1 + n))
    obtain ⟨m, a4, s4, e4, _, _⟩ := among_ev hl a3 s3 (by omega) (by omega) [1, 5, 99, 100, 0] (by decide) (by decide)
    obtain ⟨c, a5, s5, e5, b6, b7⟩ := one_ev hl a3 s3 (by omega) (by omega) 3 (by omega)
    obtain ⟨m2, a6, s6, e6, _, _⟩ := among_ev hl a5 s5 (by omega) (by omega) [1, 5, 99, 100, 0] (by decide) (by decide)
    generalize LP [⟨u, v, t⟩] (wrap64 (1 + n)) = R at *
    cases hr : R.2 with
    | false =>
      refine ⟨u, v, t, wrap64 (1 + n), m, Ev.step (fun k => by simp only [spec_DrawLeverRow.j0]; exact rfl) (somx e3 (Ev.bind hq (ifn (fun h => ?_) (somx e4 ?_))))⟩
      · rw [hr] at h; exact Bool.false_ne_true h
      · exact done rfl
    | true =>
      cases c with
      | true =>
        refine ⟨u, v, t, wrap64 (1 + n), m2, Ev.step (fun k => by simp only [spec_DrawLeverRow.j0]; exact rfl) (somx e3 (Ev.bind hq (ifp hr (somx e5 ?_))))⟩
        refine ifp (Eq.refl true) (somx e6 ?_)
        exact done rfl
      | false =>
        refine ⟨u, v, t, wrap64 (1 + n), R.1, Ev.step (fun k => by simp only [spec_DrawLeverRow.j0]; exact rfl) (somx e3 (Ev.bind hq (ifp hr (somx e5 ?_))))⟩
        refine ifn Bool.false_ne_true ?_
        exact done rfl
  unfold spec_DrawLeverRow.f
  cases b with
  | true =>
    obtain ⟨x', y', z', w, f, e⟩ := go x y z a2 s2 (by omega) (by omega)
    exact ⟨x', y', z', w, f, Ev.bind e1 (somx e2 (ifp (Eq.refl true) e))⟩
  | false =>
    obtain ⟨n1, a3, s3, e3, _, b4, b5⟩ := pick_ev hl a2 s2 (by omega) (by omega) 6 (by omega)
    obtain ⟨n2, a4, s4, e4, _, b6, b7⟩ := pick_ev hl a3 s3 (by omega) (by omega) 6 (by omega)
    obtain ⟨x', y', z', w, f, e⟩ := go 1 (wrap64 (1 + n1)) (wrap64 (1 + n2)) a4 s4 (by omega) (by omega)
    exact ⟨x', y', z', w, f, Ev.bind e1 (somx e2 (ifn Bool.false_ne_true (somx e3 (somx e4 e))))⟩

/-! ### what the law compares -/
theorem rdC {l : List Ce} {i : Nat} (h : i < l.length) : rd_T41 l (i : Int) = l[i] := by
  unfold rd_T41; rw [Int.toNat_natCast]; exact getD_lt h _
theorem vPairs_ev (l : List Ce) (hn : l.length ≤ 140737488355328) : Ev (fun k => laws_vPairs.f k l l) true := by
  have h : ∀ i, i ≤ l.length → Ev (fun k => laws_vPairs.l0 k l l (i : Int)) true := by
    refine downTo l.length ?_ ?_
    · exact Ev.step (fun k => by simp only [laws_vPairs.l0]; exact rfl) (ifn (by omega) (done rfl))
    · intro i hi ih
      refine Ev.step (fun k => by simp only [laws_vPairs.l0]; exact rfl) (ifp (by omega) (ifp (by omega) (ifp (by omega) (ifn (by simp) ?_))))
      rw [wrapS hi hn]; exact ih
  unfold laws_vPairs.f
  exact ifp rfl (h 0 (Nat.zero_le _))
theorem vRow_ev (l : List Ld) (hn : l.length ≤ 140737488355328) : Ev (fun k => laws_vRow.f k l l) true := by
  have h : ∀ i, i ≤ l.length → Ev (fun k => laws_vRow.l0 k l l (i : Int)) true := by
    refine downTo l.length ?_ ?_
    · exact Ev.step (fun k => by simp only [laws_vRow.l0]; exact rfl) (ifn (by omega) (done rfl))
    · intro i hi ih
      refine Ev.step (fun k => by simp only [laws_vRow.l0]; exact rfl) (ifp (by omega) (ifp (by omega) (ifp (by omega) (ifn (by simp) ?_))))
      rw [wrapS hi hn]; exact ih
  unfold laws_vRow.f
  exact ifp rfl (h 0 (Nat.zero_le _))

/-! ### levers -/
structure Lev (s : St) (w f : Int) : Prop where
  ok : OK s = true
  k : s.f0 = 1
  w0 : 1 ≤ w
  w1 : w ≤ 99
  f0 : 1 ≤ f
  f1 : f ≤ 99
theorem Lev.ab {s : St} {w f : Int} (h : Lev s w f) : 1 ≤ s.f1 ∧ s.f1 ≤ 24 ∧ 1 ≤ s.f2 ∧ s.f2 ≤ 24 := by
  obtain ⟨h1, h2, h3, h4⟩ := ok_cases h.ok
  have := h.k
  rcases h3 with h3 | h3
  · omega
  · exact ⟨h1, h2, h3.1, h3.2⟩
def lrow (s : St) (w f : Int) : List Ld := [⟨30 - s.f2, w⟩, ⟨30 + s.f1, f⟩]
open Classical in
noncomputable def LR (s : St) (w f : Int) : List Ld × Bool := if Lev s w f then (lrow s w f, true) else ([], false)
theorem iLever_ev (s : St) (w f : Int) : Ev (fun k => impl_LeverRow.f k s.f0 s.f1 s.f2 w f) (LR s w f) := by
  unfold impl_LeverRow.f
  have h1 := IsStage_ev s.f0 s.f1 s.f2
  refine Ev.bind h1 ?_
  by_cases h : Lev s w f
  · have e : LR s w f = (lrow s w f, true) := if_pos h
    rw [e]
    obtain ⟨a0, a1, b0, b1⟩ := h.ab
    obtain ⟨ok, k, w0, w1, f0, f1⟩ := h
    refine ifp ok (ifp k (somb (PureRow.isWeight_eq w) ?_))
    rw [show PureRow.Wt w = true from decide_eq_true ⟨w0, w1⟩]
    refine ifp (Eq.refl true) (somb (PureRow.isWeight_eq f) ?_)
    rw [show PureRow.Wt f = true from decide_eq_true ⟨f0, f1⟩]
    refine ifp (Eq.refl true) (done ?_)
    rw [w64 (x := 30 - s.f2) (by omega) (by omega), w64 (x := 30 + s.f1) (by omega) (by omega)]
    rfl
  · have e : LR s w f = ([], false) := if_neg h
    rw [e]
    refine ifc (fun ok => ifc (fun k => somb (PureRow.isWeight_eq w) (ifc (fun hw => somb (PureRow.isWeight_eq f) (ifc (fun hf => ?_) fun _ => done rfl)) fun _ => done rfl)) fun _ => done rfl) fun _ => done rfl
    have hw2 : 1 ≤ w ∧ w ≤ 99 := of_decide_eq_true hw
    have hf2 : 1 ≤ f ∧ f ≤ 99 := of_decide_eq_true hf
    exact absurd ⟨ok, k, hw2.1, hw2.2, hf2.1, hf2.2⟩ h
theorem sLever_ev (s : St) (w f : Int) : Ev (fun k => spec_LeverRow.f k s.f0 s.f1 s.f2 w f) (LR s w f) := by
  unfold spec_LeverRow.f
  have h1 := l7Stage_ev s.f0 s.f1 s.f2
  refine Ev.bind h1 ?_
  by_cases h : Lev s w f
  · have e : LR s w f = (lrow s w f, true) := if_pos h
    rw [e]
    obtain ⟨a0, a1, b0, b1⟩ := h.ab
    obtain ⟨ok, k, w0, w1, f0, f1⟩ := h
    refine ifp ok (ifp k (somb (l1In_eq w 1 99) ?_))
    refine ifp (decide_eq_true ⟨w0, w1⟩) (somb (l1In_eq f 1 99) ?_)
    refine ifp (decide_eq_true ⟨f0, f1⟩) (done ?_)
    rw [w64 (x := 30 - s.f2) (by omega) (by omega), w64 (x := 30 + s.f1) (by omega) (by omega)]
    rfl
  · have e : LR s w f = ([], false) := if_neg h
    rw [e]
    refine ifc (fun ok => ifc (fun k => somb (l1In_eq w 1 99) (ifc (fun hw => somb (l1In_eq f 1 99) (ifc (fun hf => ?_) fun _ => done rfl)) fun _ => done rfl)) fun _ => done rfl) fun _ => done rfl
    have hw2 : 1 ≤ w ∧ w ≤ 99 := of_decide_eq_true hw
    have hf2 : 1 ≤ f ∧ f ≤ 99 := of_decide_eq_true hf
    exact absurd ⟨ok, k, hw2.1, hw2.2, hf2.1, hf2.2⟩ h
theorem lev_moment {s : St} {w f : Int} (h : Lev s w f) : Ev (fun k => impl_MomentAbout.f k (lrow s w f) 30) (f * s.f1 - w * s.f2, true) := by
  have e := PureMoment.MomentAbout_ev (lrow s w f) (by simp [lrow]) 30
  obtain ⟨a0, a1, b0, b1⟩ := h.ab
  have hr : (PureRow.RowOK (lrow s w f) && PureRow.Pl 30) = true := by
    have h1 := h.w0
    have h2 := h.w1
    have h3 := h.f0
    have h4 := h.f1
    simp [PureRow.RowOK, lrow, PureRow.LdOK, PureRow.Pl, PureRow.Wt]
    omega
  rw [hr, if_pos rfl] at e
  have em : PureMoment.mom 30 (lrow s w f) = f * s.f1 - w * s.f2 := by
    simp only [lrow, PureMoment.mom]
    rw [show 30 - s.f2 - 30 = -s.f2 from by omega, show 30 + s.f1 - 30 = s.f1 from by omega, Int.mul_neg]
    omega
  rw [em] at e
  exact e
theorem lev_ask {s : St} {w f : Int} (h : Lev s w f) : AskV [s] w := ⟨⟨by simp, fun x hx => by rw [List.mem_singleton.1 hx]; exact h.ok⟩, by have := h.w0; omega, by have := h.w1; omega⟩
theorem lev_gain {s : St} {w f : Int} (h : Lev s w f) : cg [s] = cut s.f1 s.f2 := by
  obtain ⟨a0, a1, b0, b1⟩ := h.ab
  have e : sg s = cut s.f1 s.f2 := by unfold sg; rw [if_neg (by have := h.k; omega), if_neg (by have := h.k; omega)]
  show cut (1 * (sg s).1) (1 * (sg s).2) = _
  rw [e]
  have c := cut_cut (a := s.f1) (b := s.f2) (n := 1) (d := 1) a0 b0 (by decide) (by decide)
  rw [Int.mul_one, Int.mul_one, Int.mul_one, Int.mul_one] at c
  rw [Int.one_mul, Int.one_mul]
  exact c
theorem lev_law {s : St} {w f : Int} (h : Lev s w f) : ((f * s.f1 - w * s.f2 == 0) != ((PF [s] w).1 == f && ((PF [s] w).2.1 == 1))) = false := by
  obtain ⟨a0, a1, b0, b1⟩ := h.ab
  have w0 := h.w0
  have f0 := h.f0
  rw [PF_ask (lev_ask h), lev_gain h]
  obtain ⟨g, g1, g2, g3⟩ := cut_mul (show 0 ≤ s.f1 by omega) b0
  obtain ⟨⟨c1, _⟩, c3, _⟩ := cut_range a0 (Int.le_refl _) b0 (Int.le_refl _)
  have e1 : f * s.f1 = g * (f * (cut s.f1 s.f2).1) := by rw [Int.mul_left_comm, ← g2]
  have e2 : w * s.f2 = g * (w * (cut s.f1 s.f2).2) := by rw [Int.mul_left_comm, ← g3]
  rw [e1, e2]
  generalize (cut s.f1 s.f2).1 = a at *
  generalize (cut s.f1 s.f2).2 = b at *
  have wb : 0 ≤ w * b := Int.mul_nonneg (by omega) (by omega)
  obtain ⟨t, t1, t2, t3⟩ := cut_mul wb c1
  have key : (g * (f * a) - g * (w * b) = 0) ↔ ((cut (w * b) a).1 = f ∧ (cut (w * b) a).2 = 1) := by
    constructor
    · intro e
      have e3 : g * (f * a) = g * (w * b) := by omega
      have e4 : f * a = w * b := Int.eq_of_mul_eq_mul_left (by omega) e3
      have e5 : cut (w * b) a = cut f 1 := cut_same wb c1 (by omega) (by decide) (by rw [Int.mul_one, e4])
      rw [e5, cut_one (by omega)]
      exact ⟨rfl, rfl⟩
    · rintro ⟨e3, e4⟩
      rw [e3] at t2
      rw [e4, Int.mul_one] at t3
      rw [t2, t3, Int.mul_comm f t]
      omega
  have : (g * (f * a) - g * (w * b) == 0) = ((cut (w * b) a).1 == f && (cut (w * b) a).2 == 1) := by
    rw [Bool.eq_iff_iff]
    simpa using key
  rw [this]
  simp

/-! ### the last questions -/
theorem PF_flag (l : List St) (p : Int) : (PF l p).2.2 = (ChainOK l 5 && Hl p) := by
  unfold PF; split <;> next h => simp_all
theorem LP_flag (l : List St) (p : Int) : (LP l p).2 = (ChainOK l 5 && Hl p) := by
  unfold LP; split <;> next h => simp_all
theorem HF_flag (l : List St) (p : Int) : (HF l p).2.2 = (ChainOK l 5 && Hl p) := by
  unfold HF; split <;> next h => simp_all
theorem j3_ev {l : List St} {p : Int} (a : AskV l p) {A B : Int} (hA : (cut (p * (cg l).2) (cg l).1).1 = A) (hB : (cut (p * (cg l).2) (cg l).1).2 = B) : Ev (fun k => laws_FnChains.j3 k l p ((A + B - 1) / B) (p * (cg l).1 / (cg l).2) true false (cg l).1 (cg l).2) true := by
  have m := nums a
  rw [hA, hB] at m
  have p0 := a.p0
  have p1 := a.p1
  have hl := a.v.n
  have e := iMost_ev l (by omega) ((A + B - 1) / B)
  obtain ⟨n0, n1, d0, d1, A0, A1, B0, B1, g, hg, e1, e2⟩ := m
  have m0 : 0 ≤ p * (cg l).1 := Int.mul_nonneg p0 (by omega)
  have m1 : p * (cg l).1 ≤ 1000000 * 254803968 := Int.mul_le_mul p1 n1 (by omega) (by omega)
  have q0 : 0 ≤ p * (cg l).1 / (cg l).2 * (cg l).2 := Int.mul_nonneg (Int.ediv_nonneg m0 (by omega)) (by omega)
  have q1 : p * (cg l).1 / (cg l).2 * (cg l).2 ≤ p * (cg l).1 := Int.ediv_mul_le _ (by omega)
  obtain ⟨c1, c2⟩ := (ceil_eq B0 (a := A)).1 rfl
  have L0 : 0 ≤ (A + B - 1) / B := Int.ediv_nonneg (by omega) (by omega)
  refine Ev.step (fun k => by simp only [laws_FnChains.j3]; exact rfl) (ifn Bool.false_ne_true (ifp (Eq.refl true) (ifn ?_ (Ev.bind e ?_))))
  · rw [w64 (by omega) (by omega), w64 (by omega) (by omega)]; omega
  · refine ifc (fun _ => done rfl) fun hL => ?_
    have al : AskV l ((A + B - 1) / B) := ⟨a.v, L0, by omega⟩
    rw [ML_ask al]
    refine ifp (Eq.refl true) (done ?_)
    refine decide_eq_true ?_
    show p ≤ (A + B - 1) / B * (cg l).1 / (cg l).2
    refine Int.le_ediv_of_mul_le (by omega) ?_
    rw [e1, e2, show (A + B - 1) / B * (g * B) = g * ((A + B - 1) / B * B) from by rw [Int.mul_left_comm]]
    exact Int.mul_le_mul_of_nonneg_left c1 (by omega)
theorem j2_ev {l : List St} (hl : l.length ≤ 6) (p : Int) {r : List Ce} (hr : r.length ≤ 6) (hs : AskV l p → r.length = l.length + 1 ∧ r[l.length]? = some (SP l p l.length)) : Ev (fun k => laws_FnChains.j2 k l p (PF l p).2.2 (LP l p).1 (ML l p).1 (ML l p).2 r (PF l p).1 (PF l p).2.1 (HF l p).1 (HF l p).2.1 (CG l).1 (CG l).2.1) true := by
  refine Ev.step (fun k => by simp only [laws_FnChains.j2]; exact rfl) ?_
  by_cases h : (ChainOK l 5 && Hl p) = true
  · have a := ask_of h
    obtain ⟨s1, s2⟩ := hs a
    have m := nums a
    have last := j3_ev a rfl rfl
    have eg : CG l = ((cg l).1, (cg l).2, true) := if_pos (chainOk a.v)
    have p0 := a.p0
    have p1 := a.p1
    have hrd : rd_T41 r (l.length : Int) = SP l p l.length := by
      unfold rd_T41; rw [Int.toNat_natCast, List.getD_eq_getElem?_getD, s2]; rfl
    have hsp : SP l p l.length = ⟨(cut (p * (cg l).2) (cg l).1).1, (cut (p * (cg l).2) (cg l).1).2⟩ := by unfold SP; rw [List.take_length]
    obtain ⟨t, t1, t2, t3⟩ := cut_mul (Int.mul_nonneg p0 (show 0 ≤ (cg l).1 by have := m.n0; omega)) m.d0
    have w0 : 1 ≤ (cut (p * (cg l).1) (cg l).2).2 := by
      have : 0 < (cut (p * (cg l).1) (cg l).2).2 := Int.ediv_pos_of_pos_of_dvd (by have := m.d0; omega) (by have := gd_pos (a := p * (cg l).1) m.d0; omega) (gd_dvd_right _ (by have := m.d0; omega))
      omega
    have w1 : (cut (p * (cg l).1) (cg l).2).2 ≤ 7962624 := Int.le_trans (Int.ediv_le_self _ (by have := m.d0; omega)) m.d1
    rw [PF_ask a, LP_ask a, HF_ask a, ML_ask a, eg]
    rw [hsp] at hrd
    generalize (cut (p * (cg l).2) (cg l).1).1 = A at *
    generalize (cut (p * (cg l).2) (cg l).1).2 = B at *
    generalize (cut (p * (cg l).1) (cg l).2).1 = U at *
    generalize (cut (p * (cg l).1) (cg l).2).2 = W at *
    obtain ⟨n0, n1, d0, d1, A0, A1, B0, B1, g, hg, e1, e2⟩ := m
    obtain ⟨c1, c2⟩ := (ceil_eq B0 (a := A)).1 rfl
    have L0 : 0 ≤ (A + B - 1) / B := Int.ediv_nonneg (by omega) (by omega)
    have L1 : (A + B - 1) / B ≤ A + B - 1 := Int.ediv_le_self _ (by omega)
    have pB0 : 0 ≤ p * B := Int.mul_nonneg p0 (by omega)
    have pB1 : p * B ≤ 1000000 * 254803968 := Int.mul_le_mul p1 B1 (by omega) (by omega)
    have pW0 : 0 ≤ p * W := Int.mul_nonneg p0 (by omega)
    have pW1 : p * W ≤ 1000000 * 7962624 := Int.mul_le_mul p1 w1 (by omega) (by omega)
    have x1 : A * (cg l).1 = p * B * (cg l).2 := by
      have : A * (cg l).1 = (g * A) * B := by rw [e2]; simp only [Int.mul_assoc, Int.mul_left_comm, Int.mul_comm]
      rw [this, ← e1]; simp only [Int.mul_assoc, Int.mul_left_comm, Int.mul_comm]
    have x2 : U * (cg l).2 = p * W * (cg l).1 := by
      have : U * (cg l).2 = (t * U) * W := by rw [t3]; simp only [Int.mul_assoc, Int.mul_left_comm, Int.mul_comm]
      rw [this, ← t2]; simp only [Int.mul_assoc, Int.mul_left_comm, Int.mul_comm]
    refine ifp (Eq.refl true) (ifp ?_ (ifp (by omega) (ifp (by omega) (ifn ?_ (ifp ?_ (ifp ?_ (ifn ?_ ?_)))))))
    · rw [w64 (by omega) (by omega)]; omega
    · rw [hrd]; simp
    · show wrap64 (A * (cg l).1) = wrap64 (wrap64 (p * B) * (cg l).2)
      rw [w64 (x := p * B) (by omega) (by omega), x1]
    · show wrap64 (U * (cg l).2) = wrap64 (wrap64 (p * W) * (cg l).1)
      rw [w64 (x := p * W) (by omega) (by omega), x2]
    · show ¬ wrap64 ((A + B - 1) / B * B) < A
      rw [w64 (by omega) (by omega)]; omega
    · have e3 : ((A + B - 1) / B - 1) * B = (A + B - 1) / B * B - B := by rw [Int.sub_mul, Int.one_mul]
      refine ifc (fun hp => ?_) fun _ => last
      have d : decide (wrap64 (wrap64 ((A + B - 1) / B - 1) * B) ≥ A) = false := by
        rw [w64 (x := (A + B - 1) / B - 1) (by omega) (by omega), e3, w64 (by omega) (by omega)]
        exact decide_eq_false (by omega)
      show Ev (fun k => laws_FnChains.j3 k l p ((A + B - 1) / B) (p * (cg l).1 / (cg l).2) true (decide (wrap64 (wrap64 ((A + B - 1) / B - 1) * B) ≥ A)) (cg l).1 (cg l).2) true
      rw [d]; exact last
  · refine ifn ?_ (done rfl)
    rw [PF_flag]; exact h
theorem l0_ev {l : List St} (hl : l.length ≤ 6) (v : ChainV l) (p : Int) {r : List Ce} {x6 x14 : Bool} {x9 x13 a0 a1 b0 b1 : Int} (k2 : Ev (fun k => laws_FnChains.j2 k l p x6 x9 x13 x14 r a0 a1 b0 b1 (cg l).1 (cg l).2) true) : ∀ i : Nat, i ≤ l.length → Ev (fun k => laws_FnChains.l0 k l p x6 x9 x13 x14 r ((l.drop i).reverse) ((i : Int) - 1) a0 a1 b0 b1 (cg l).1 (cg l).2) true := by
  intro i
  induction i with
  | zero =>
    intro _
    have e := iGain_ev l.reverse (by rw [List.length_reverse]; omega)
    have eg : CG l.reverse = ((cg l).1, (cg l).2, true) := by unfold CG; rw [if_pos (chainOk (rev_V v)), cg_rev v]
    rw [eg] at e
    refine Ev.step (fun k => by simp only [laws_FnChains.l0]; exact rfl) (ifn (by omega) ?_)
    rw [List.drop_zero]
    exact Ev.bind e (ifp (Eq.refl true) (ifn (by simp) k2))
  | succ i ih =>
    intro hi
    have h := ih (by omega)
    have e : ((i + 1 : Nat) : Int) - 1 = (i : Int) := by omega
    rw [e]
    refine Ev.step (fun k => by simp only [laws_FnChains.l0]; exact rfl) (ifp (by omega) (ifp (by omega) (ifp (by omega) (ifp (by rw [List.length_reverse, List.length_drop]; omega) ?_))))
    rw [rdS (show i < l.length by omega), w64 (x := (i : Int) - 1) (by omega) (by omega)]
    rw [drop_cons (show i < l.length by omega), List.reverse_cons] at h
    exact h
theorem j0_ev {l : List St} (hl : l.length ≤ 6) (p : Int) {r : List Ce} (hr : r.length ≤ 6) (hs : AskV l p → r.length = l.length + 1 ∧ r[l.length]? = some (SP l p l.length)) : Ev (fun k => laws_FnChains.j0 k l p (PF l p).2.2 (LP l p).1 (ML l p).1 (ML l p).2 (CG l).2.2 r (PF l p).1 (PF l p).2.1 (HF l p).1 (HF l p).2.1 (CG l).1 (CG l).2.1) true := by
  have k2 := j2_ev hl p hr hs
  refine Ev.step (fun k => by simp only [laws_FnChains.j0]; exact rfl) ?_
  by_cases h : ChainOK l 5 = true
  · have eg : CG l = ((cg l).1, (cg l).2, true) := if_pos h
    rw [eg] at k2 ⊢
    have e := l0_ev hl (chainV h) p k2 l.length (Nat.le_refl _)
    rw [List.drop_length] at e
    refine ifp (Eq.refl true) ?_
    rw [w64 (by omega) (by omega)]
    exact e
  · have eg : CG l = (0, 0, false) := if_neg h
    rw [eg] at k2 ⊢
    exact ifn Bool.false_ne_true k2
theorem FnChains : laws_FnChains.Pure := by
  intro c _ hl hb
  refine Ev.rounds ?_
  unfold laws_FnChains.f
  refine somb (vBig_eq c) (ifc (fun _ => done rfl) fun hbig => ?_)
  have hbig2 : ¬ c.length > 65536 := by simpa using hbig
  obtain ⟨l, p, e0, hn⟩ := DrawPullFor_ev (bytes_of hb)
  obtain ⟨c2, hc, hcb, hcl⟩ := vCut_ev (bytes_of hb) (by omega) 1 (by omega)
  obtain ⟨x, y, z, w, f, e1⟩ := DrawLeverRow_ev hcb
  have hn2 : l.length ≤ 140737488355328 := by omega
  obtain ⟨r, r1, r2, r3, r4⟩ := steps_both l hn2 p
  have last := j0_ev hn p r3 r4
  have v1 := vPairs_ev r (by omega)
  have hlr : (LR ⟨x, y, z⟩ w f).1.length ≤ 2 := by unfold LR; split <;> simp [lrow]
  have v2 := vRow_ev (LR ⟨x, y, z⟩ w f).1 (by omega)
  refine Ev.bind e0 (Ev.bind (iPull_ev l hn2 p) (Ev.bind (sPull_ev l hn2 p) (Ev.bind (iLeast_ev l hn2 p) (Ev.bind (sLeast_ev l hn2 p) (Ev.bind (iMost_ev l hn2 p) (Ev.bind (sMost_ev l hn2 p) (Ev.bind (iHaul_ev l hn2 p) (Ev.bind (sHaul_ev l hn2 p) (Ev.bind (iGain_ev l hn2) (Ev.bind (sGain_ev l hn2) (Ev.bind r2 (Ev.bind r1 (somb hc (Ev.bind e1 (Ev.bind (iLever_ev ⟨x, y, z⟩ w f) (Ev.bind (sLever_ev ⟨x, y, z⟩ w f) ?_))))))))))))))))
  refine ifn (by simp) (ifn (by simp) (ifp (Eq.refl _) (ifn (by simp) (ifp (Eq.refl _) (ifn (by simp) (ifn (by simp) (ifn (by simp) (ifn (by simp) (ifn (by simp) (ifn (by simp) (Ev.bind v1 (ifp (Eq.refl true) (ifn (by simp) (Ev.bind v2 (ifp (Eq.refl true) ?_)))))))))))))))
  refine ifn (by rw [PF_flag, LP_flag]; simp) (ifn (by rw [PF_flag, HF_flag]; simp) (ifn (by rw [PF_flag]; simp) ?_))
  by_cases h : Lev ⟨x, y, z⟩ w f
  · have e : LR ⟨x, y, z⟩ w f = (lrow ⟨x, y, z⟩ w f, true) := if_pos h
    rw [e]
    have em := lev_moment h
    have ep := iPull_ev [⟨x, y, z⟩] (by simp) w
    have hlaw := lev_law h
    have hf : (PF [⟨x, y, z⟩] w).2.2 = true := by rw [PF_flag]; exact (lev_ask h).ok
    refine ifp (Eq.refl true) (Ev.bind em (Ev.bind ep (ifp (Eq.refl true) (ifp hf (ifn ?_ last)))))
    rw [hlaw]; exact Bool.false_ne_true
  · have e : LR ⟨x, y, z⟩ w f = ([], false) := if_neg h
    rw [e]
    exact ifn Bool.false_ne_true last
end Go.Proofs.Ytbjilpmnhghfhaa.Pure
