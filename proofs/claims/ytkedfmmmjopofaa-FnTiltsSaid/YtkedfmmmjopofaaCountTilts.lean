/- CountTilts, in the program and in the reference alike. No conditions beyond those of the lemmas' own hypotheses. -/
import Derived.Test.YtkedfmmmjopofaaKnap
import Derived.Test.YtkedfmmmjopofaaTiltsCount
import Derived.Test.YtkedfmmmjopofaaXTix12
import Derived.Test.YtkedfmmmjopofaaXTix11
namespace Go.Proofs.Ytkedfmmmjopofaa.PureCountTilts
open Go.RowKit Go.Proofs.Ytkedfmmmjopofaa.XTi Go.Proofs.Ytkedfmmmjopofaa.Plain Go.Proofs.Ytkedfmmmjopofaa.Bits Go.Proofs.Ytkedfmmmjopofaa.PureSeats Go.Proofs.Ytkedfmmmjopofaa.PureArms Go.Proofs.Ytkedfmmmjopofaa.PureTilts Go.Proofs.Ytkedfmmmjopofaa.PureTiltsCount Go.Proofs.Ytkedfmmmjopofaa.PureKnap Go.Proofs.YtkedfmmmjopofaaW.PrintWords Go.Proofs.YtkedfmmmjopofaaW.PrintLast Go.Proofs.YtkedfmmmjopofaaW.PrintMore
set_option linter.unusedVariables false
theorem fold_count (m0 : Int) (ws ar : List Int) : ∀ (L : List Nat) (s : Int), L.foldl (tstep m0 ws ar) s = s + ((L.countP fun c => decide (mom ws ar (tiltS ws.length c) = m0) : Nat) : Int) := by
  intro L
  induction L with
  | nil => intro s; simp
  | cons c L ih =>
    intro s
    rw [List.foldl_cons, ih, List.countP_cons]
    unfold tstep
    by_cases h : mom ws ar (tiltS ws.length c) = m0
    · rw [if_pos h, if_pos (decide_eq_true h)]; omega
    · rw [if_neg h, if_neg (by rw [decide_eq_false h]; exact Bool.false_ne_true)]; omega
theorem each_count {ws ar : List Int} (o : Ok ws ar) (m0 : Int) : Ev (fun k => impl_eachTilt_CountTilts_1.f k ws ar m0 0) (N ws ar m0 : Int) := by
  have h := each_ev o m0 0 rfl
  rw [fold_count, Int.zero_add] at h
  exact h
section
variable {ws ar : List Int} {m T : Int}
theorem inner (o : Ok ws ar) (hT0 : 0 ≤ T) (hT : T ≤ 7128) {P : List Int} {w : Int} (hP : ∀ x ∈ P, 0 ≤ x) (hPl : P.length ≤ 12) (hw : 1 ≤ w) {i : Nat} (hi : i < ws.length) {r : Int × Bool}
    (rest : ∀ x, Tab x T (K (P ++ [w])) → Ev (fun k => spec_CountTilts.l0 k ws ar m T x ((i + 1 : Nat) : Int)) r) : ∀ d : Nat, w - 1 + (d : Int) ≤ T → ∀ x, Tab x T (fun s => if s ≤ w - 1 + (d : Int) then K P s else K (P ++ [w]) s) → Ev (fun k => spec_CountTilts.l1 k ws ar m T x (i : Int) w (w - 1 + (d : Int))) r := by
  have lw := o.lw
  intro d
  induction d with
  | zero =>
    intro h x hx
    have e := rest x (Tab_congr hx fun s s0 s1 => by
      by_cases q : s ≤ w - 1 + ((0 : Nat) : Int)
      · rw [if_pos q, K_snoc, K_neg hP (s - w) (by omega), Int.add_zero]
      · rw [if_neg q])
    rw [← wrapS hi (by omega)] at e
    exact Ev.step (fun k => by simp only [spec_CountTilts.l1]; exact rfl) (ifn (by omega) e)
  | succ d ih =>
    intro h x hx
    have hl := hx.1
    have e0 : w - 1 + ((d + 1 : Nat) : Int) = w + (d : Int) := by omega
    rw [e0] at h hx ⊢
    have e1 : wrap64 (w + (d : Int) - w) = (d : Int) := by rw [w64 (by omega) (by omega)]; omega
    have e2 : wrap64 (w + (d : Int) - 1) = w - 1 + (d : Int) := by rw [w64 (by omega) (by omega)]; omega
    have r1 : rd x (w + (d : Int)) = K P (w + (d : Int)) := (hx.2 (w + (d : Int)) (by omega) h).trans (if_pos (Int.le_refl _))
    have r2 : rd x (d : Int) = K P (d : Int) := (hx.2 (d : Int) (by omega) (by omega)).trans (if_pos (by omega))
    have b1 := K_range P (w + (d : Int))
    have b2 := K_range P (d : Int)
    have pw : 2 ^ P.length ≤ 2 ^ 12 := Nat.pow_le_pow_right (by decide) hPl
    refine Ev.step (fun k => by simp only [spec_CountTilts.l1]; exact rfl) (ifp (by omega) (ifp (by omega) (ifp (by omega) ?_)))
    rw [e1]
    refine ifp (by omega) (ifp (by omega) ?_)
    rw [r1, r2, e2, w64 (by omega) (by omega)]
    refine ih (by omega) _ (Tab_congr (Tab_set hx (v := K P (w + (d : Int)) + K P (d : Int)) (by omega) h) fun s s0 s1 => ?_)
    by_cases q : s = w + (d : Int)
    · rw [if_pos q, if_neg (by omega), K_snoc, q, show w + (d : Int) - w = (d : Int) from by omega]
    · rw [if_neg q]
      by_cases q2 : s ≤ w - 1 + (d : Int)
      · rw [if_pos q2, if_pos (by omega)]
      · rw [if_neg q2, if_neg (by omega)]
theorem outer (o : Ok ws ar) (hT : T = (owns ws ar).sum) (hm1 : -T ≤ m) (hm2 : m ≤ T) : ∀ i, i ≤ ws.length → ∀ x, Tab x T (K ((owns ws ar).take i)) → Ev (fun k => spec_CountTilts.l0 k ws ar m T x (i : Int)) (K (owns ws ar) ((T + m) / 2), true) := by
  have lw := o.lw
  have la := o.la
  have ol := owns_len la
  have ob := owns_b o.ha o.hw
  obtain ⟨s1, s2, s3⟩ := sum_b _ ob
  rw [← hT] at s1 s2 s3
  refine downTo ws.length ?_ ?_
  · intro x hx
    have e : wrap64 (Int.tdiv (wrap64 (T + m)) 2) = (T + m) / 2 := by
      rw [w64 (x := T + m) (by omega) (by omega), Int.tdiv_eq_ediv_of_nonneg (by omega), w64 (by omega) (by omega)]
    have hl := hx.1
    refine Ev.step (fun k => by simp only [spec_CountTilts.l0]; exact rfl) (ifn (by omega) ?_)
    rw [e]
    refine ifp (by omega) (ifp (by omega) (done ?_))
    rw [hx.2 _ (by omega) (by omega), ← ol, List.take_length]
  · intro i hi ih x hx
    have a1 : i < ar.length := by omega
    have a2 : i < (owns ws ar).length := by omega
    have hb := prod_b (o.hw ws[i] (List.getElem_mem hi)) (o.ha ar[i] (List.getElem_mem a1))
    have hle := s3 _ (List.getElem_mem a2)
    rw [owns_at hi a1 a2] at hle
    refine Ev.step (fun k => by simp only [spec_CountTilts.l0]; exact rfl) (ifp (by omega) (ifp (by omega) (ifp (by omega) ?_)))
    rw [rd_lt hi, rd_lt a1, w64 (x := ws[i] * ar[i]) (by omega) (by omega)]
    have et : (owns ws ar).take (i + 1) = (owns ws ar).take i ++ [ws[i] * ar[i]] := by rw [take_succ a2, owns_at hi a1 a2]
    obtain ⟨v, hv⟩ : ∃ v, ws[i] * ar[i] = v := ⟨_, rfl⟩
    rw [hv] at hb hle et ⊢
    rw [et] at ih
    have hd : v - 1 + (((T - (v - 1)).toNat : Nat) : Int) = T := by omega
    have key := inner o s1 (by omega) (P := (owns ws ar).take i) (w := v) (m := m) (fun y hy => by have := ob y (List.mem_of_mem_take hy); omega) (by rw [List.length_take]; omega) hb.1 hi ih (T - (v - 1)).toNat (by omega) x (Tab_congr hx fun s s0 s1 => by rw [if_pos (by omega)])
    rw [hd] at key
    exact key
theorem table (o : Ok ws ar) (m : Int) (hm : -10000 ≤ m ∧ m ≤ 10000) : Ev (fun k => spec_CountTilts.j0 k ws ar m false) ((N ws ar m : Int), true) := by
  have lw := o.lw
  have la := o.la
  have ob := owns_b o.ha o.hw
  have ob0 : ∀ x ∈ owns ws ar, 0 ≤ x := fun x hx => by have := ob x hx; omega
  have ol := owns_len la
  obtain ⟨s1, s2, s3⟩ := sum_b _ ob
  have hn := N_eq ws ar la m
  have hf : 2 ^ ws.length - 1 < 2 ^ ws.length := by have := Nat.two_pow_pos ws.length; omega
  have e1 : wrap64 (shl .i64 1 (ws.length : Int) - 1) = ((2 ^ ws.length - 1 : Nat) : Int) := by
    have hp : 2 ^ ws.length ≤ 2 ^ 12 := Nat.pow_le_pow_right (by decide) lw
    rw [shlN (rfl : (ws.length : Int) = ws.length) (by omega), w64 (by omega) (by omega)]; omega
  have f1 := signs_ev lw hf
  rw [tiltS_full _ _ (Nat.le_refl _), ← e1] at f1
  have f2 := moment_ev o (ss := List.replicate ws.length 1) (by simp) (fun x hx => Or.inl (List.eq_of_mem_replicate hx))
  rw [mom_ones] at f2
  obtain ⟨T, hT⟩ : ∃ T, (owns ws ar).sum = T := ⟨_, rfl⟩
  rw [hT] at f2 hn s1 s2
  have en : wrap64 (-T) = -T := w64 (by omega) (by omega)
  have es : wrap64 (T + m) = T + m := w64 (by omega) (by omega)
  have one : wrap64 (T + 1) = T + 1 := w64 (by omega) (by omega)
  have zero : (N ws ar m : Int) = 0 → Ev (fun k => spec_CountTilts.j1 k ws ar m T true) ((N ws ar m : Int), true) := fun h => Ev.step (fun k => by simp only [spec_CountTilts.j1]; exact rfl) (ifp (Eq.refl true) (done (by rw [h])))
  refine Ev.step (fun k => by simp only [spec_CountTilts.j0]; exact rfl) (ifn Bool.false_ne_true (Ev.bind f1 (Ev.bind f2 ?_)))
  rw [en]
  by_cases c1 : m < -T
  · refine ifp c1 (zero ?_)
    rw [hn]
    split
    · exact K_neg ob0 _ (by omega)
    · rfl
  refine ifn c1 ?_
  by_cases c2 : m > T
  · refine ifp c2 (zero ?_)
    rw [hn]
    split
    · exact K_big ob0 _ (by rw [hT]; omega)
    · rfl
  refine ifn c2 ?_
  rw [es, Int.tmod_eq_emod_of_nonneg (by omega)]
  by_cases c3 : (T + m) % 2 = 0
  · rw [if_pos c3] at hn
    rw [show ((T + m) % 2 != 0) = false from by rw [c3]; rfl, hn]
    refine Ev.step (fun k => by simp only [spec_CountTilts.j1]; exact rfl) (ifn Bool.false_ne_true ?_)
    rw [one]
    refine ifp (by omega) (ifp (by omega) ?_)
    refine somb rfl (ifp (by rw [List.length_replicate]; omega) ?_)
    refine outer o hT.symm (by omega) (by omega) 0 (Nat.zero_le _) _ ⟨by rw [List.length_set, List.length_replicate]; omega, fun s s0 s1 => ?_⟩
    rw [show ((0 : Int)).toNat = (0 : Int).toNat from rfl, rd_set (by omega) (by rw [List.length_replicate]; omega) s0 (by rw [List.length_replicate]; omega), rd_rep]
    rfl
  · rw [if_neg c3] at hn
    rw [show ((T + m) % 2 != 0) = true from by rw [bne, beq_eq_false_iff_ne.2 c3]; rfl]
    exact zero hn
end
/-- What both return. -/
def Res (ws ar : List Int) (m : Int) : Int × Bool := if ArmsOK ws ar = true ∧ -10000 ≤ m ∧ m ≤ 10000 then ((N ws ar m : Int), true) else (0, false)
theorem both (ws : List Int) (hn : ws.length ≤ 1048576) (ar : List Int) (hl : ar.length ≤ 1048576) (m : Int) : Ev (fun k => spec_CountTilts.f k ws ar m) (Res ws ar m) ∧ Ev (fun k => impl_CountTilts.f k ws ar m) (Res ws ar m) := by
  have h1 := l9Arms_ev ws (by omega) ar (by omega)
  have h2 := areArms_ev ws (by omega) ar (by omega)
  unfold spec_CountTilts.f impl_CountTilts.f Res
  have no1 : Ev (fun k => spec_CountTilts.j0 k ws ar m true) (0, false) := Ev.step (fun k => by simp only [spec_CountTilts.j0]; exact rfl) (ifp (Eq.refl true) (done rfl))
  cases hr : ArmsOK ws ar with
  | false =>
    rw [hr] at h1 h2
    rw [if_neg (fun q => Bool.false_ne_true q.1)]
    exact ⟨Ev.bind h1 (ifn Bool.false_ne_true no1), Ev.bind h2 (ifn Bool.false_ne_true (done rfl))⟩
  | true =>
    rw [hr] at h1 h2
    have o := Ok.of hr
    by_cases hm : -10000 ≤ m ∧ m ≤ 10000
    · rw [if_pos ⟨rfl, hm⟩]
      have d : decide (-10000 ≤ m ∧ m ≤ 10000) = true := decide_eq_true hm
      refine ⟨Ev.bind h1 (ifp (Eq.refl true) (somb (l1In_eq _ _ _) ?_)), Ev.bind h2 (ifp (Eq.refl true) (somb (within_eq _ _ _) ?_))⟩
      · rw [d]; exact table o m hm
      · exact ifp d (Ev.bind (each_count o m) (done rfl))
    · rw [if_neg (fun q => hm q.2)]
      have d : decide (-10000 ≤ m ∧ m ≤ 10000) = false := decide_eq_false hm
      refine ⟨Ev.bind h1 (ifp (Eq.refl true) (somb (l1In_eq _ _ _) ?_)), Ev.bind h2 (ifp (Eq.refl true) (somb (within_eq _ _ _) ?_))⟩
      · rw [d]; exact no1
      · exact ifn (by rw [d]; exact Bool.false_ne_true) (done rfl)
end Go.Proofs.Ytkedfmmmjopofaa.PureCountTilts
