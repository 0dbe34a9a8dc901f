/- The plain law of FnTilts: tilts with a moment are counted, those of the least one among them, and all together are 2 to the power of the weights. No conditions. -/
import Derived.Test.YtkedfmmmjopofaaDrawTilt
import Derived.Test.YtkedfmmmjopofaaTiltSums
import Derived.Test.YtkedfmmmjopofaaXTix20
namespace Go.Proofs.Ytkedfmmmjopofaa.Pure
open Go.RowKit Go.Proofs.Ytkedfmmmjopofaa.XTi Go.Proofs.Ytkedfmmmjopofaa.Plain Go.Proofs.Ytkedfmmmjopofaa.Bits Go.Proofs.Ytkedfmmmjopofaa.PureDraw Go.Proofs.Ytkedfmmmjopofaa.PureDrawTilt Go.Proofs.Ytkedfmmmjopofaa.PureSeats Go.Proofs.Ytkedfmmmjopofaa.PureArms Go.Proofs.Ytkedfmmmjopofaa.PureTilts Go.Proofs.Ytkedfmmmjopofaa.PureKnap Go.Proofs.Ytkedfmmmjopofaa.PureTiltSums Go.Proofs.YtkedfmmmjopofaaW.PrintWords Go.Proofs.YtkedfmmmjopofaaW.PrintLast Go.Proofs.YtkedfmmmjopofaaW.PrintMore
open Go.Proofs.Ytkedfmmmjopofaa.PureTiltRows (rows places Sg Sg_eq moment_row)
open Go.Proofs.Ytkedfmmmjopofaa.PureLeastTilt (mo sz Best best_is sz_eq mo_b)
set_option linter.unusedVariables false
theorem vInts_l0 (l : List Int) (hn : l.length ≤ 140737488355328) : ∀ i, i ≤ l.length → Ev (fun k => laws_vInts.l0 k l l (i : Int)) true := by
  refine downTo l.length ?_ ?_
  · exact Ev.step (fun k => by simp only [laws_vInts.l0]; exact rfl) (ifn (by omega) (done rfl))
  · intro i hi ih
    refine Ev.step (fun k => by simp only [laws_vInts.l0]; exact rfl) (ifp (by omega) (ifp (by omega) (ifp (by omega) (ifp (Eq.refl (rd l (i : Int))) ?_))))
    rw [wrapS hi hn]; exact ih
theorem vInts_ev (l : List Int) (hn : l.length ≤ 140737488355328) : Ev (fun k => laws_vInts.f k l l) true := by
  unfold laws_vInts.f
  exact ifp rfl (vInts_l0 l hn 0 (Nat.zero_le _))
theorem vRow_l0 (l : List (S73)) (hn : l.length ≤ 140737488355328) : ∀ i, i ≤ l.length → Ev (fun k => laws_vRow.l0 k l l (i : Int)) true := by
  refine downTo l.length ?_ ?_
  · exact Ev.step (fun k => by simp only [laws_vRow.l0]; exact rfl) (ifn (by omega) (done rfl))
  · intro i hi ih
    refine Ev.step (fun k => by simp only [laws_vRow.l0]; exact rfl) (ifp (by omega) (ifp (by omega) (ifp (by omega) (ifn (by simp) ?_))))
    rw [wrapS hi hn]; exact ih
theorem vRow_ev (l : List (S73)) (hn : l.length ≤ 140737488355328) : Ev (fun k => laws_vRow.f k l l) true := by
  unfold laws_vRow.f
  exact ifp rfl (vRow_l0 l hn 0 (Nat.zero_le _))
theorem DrawLeastTilt_ev {l : List Int} (hl : Bytes l) : ∃ ws ar : List Int, Ev (fun k => spec_DrawLeastTilt.f k l) (ws, ar) ∧ ws.length ≤ 13 ∧ ar.length ≤ 14 := by
  obtain ⟨ws, a1, s1, e1, h1, h2, h3⟩ := weights9_ev hl 0 0 (by omega) (by omega)
  obtain ⟨ar, a2, s2, e2, h4, h5, h6⟩ := arms9_ev hl a1 s1 h2 (by omega) ws h1
  exact ⟨ws, ar, Ev.bind e1 (Ev.bind e2 (done rfl)), h1, h4⟩
theorem DrawTiltRow_ev {l : List Int} (hl : Bytes l) : ∃ ws ar ss : List Int, Ev (fun k => spec_DrawTiltRow.f k l) (ws, ar, ss) ∧ ws.length ≤ 13 ∧ ar.length ≤ 14 ∧ ss.length ≤ 14 := by
  obtain ⟨ws, a1, s1, e1, h1, h2, h3⟩ := weights9_ev hl 0 0 (by omega) (by omega)
  obtain ⟨ar, a2, s2, e2, h4, h5, h6⟩ := arms9_ev hl a1 s1 h2 (by omega) ws h1
  obtain ⟨ss, a3, s3, e3, h7, h8, h9⟩ := ones9_ev hl a2 s2 h5 (by omega) ws.length h1
  exact ⟨ws, ar, ss, Ev.bind e1 (Ev.bind e2 (Ev.bind e3 (done rfl))), h1, h4, h7⟩
theorem moment_any (ws ar ss : List Int) (hw : ws.length ≤ 140737488355328) (ha : ar.length = ws.length) (hs : ss.length = ws.length) : ∀ i, i ≤ ws.length → ∀ m : Int, ∃ r, Ev (fun k => spec_l9Moment.l0 k ws ar ss m (i : Int)) r := by
  refine downTo ws.length ?_ ?_
  · intro m
    exact ⟨m, Ev.step (fun k => by simp only [spec_l9Moment.l0]; exact rfl) (ifn (by omega) (done rfl))⟩
  · intro i hi ih m
    obtain ⟨r, e⟩ := ih (wrap64 (m + wrap64 (wrap64 (rd ws (i : Int) * rd ar (i : Int)) * rd ss (i : Int))))
    rw [← wrapS hi hw] at e
    exact ⟨r, Ev.step (fun k => by simp only [spec_l9Moment.l0]; exact rfl) (ifp (by omega) (ifp (by omega) (ifp (by omega) (ifp (by omega) e))))⟩
theorem DrawCountTilts_ev {l : List Int} (hl : Bytes l) : ∃ (ws ar : List Int) (m : Int), Ev (fun k => spec_DrawCountTilts.f k l) (ws, ar, m) ∧ ws.length ≤ 13 ∧ ar.length ≤ 14 := by
  obtain ⟨ws, a1, s1, e1, h1, h2, h3⟩ := weights9_ev hl 0 0 (by omega) (by omega)
  obtain ⟨ar, a2, s2, e2, h4, h5, h6⟩ := arms9_ev hl a1 s1 h2 (by omega) ws h1
  obtain ⟨ss, a3, s3, e3, h7, h8, h9⟩ := ones9_ev hl a2 s2 h5 (by omega) ws.length h1
  have f := l9Arms_ev ws (by omega) ar (by omega)
  have no : ∀ a s : Int, 0 ≤ a → a ≤ 4611686018427380000 → ∃ m, Ev (fun k => spec_DrawCountTilts.j0 k ws ar ss false l a s) (ws, ar, m) := by
    intro a s h0 h1
    obtain ⟨x, a4, s4, e4, _, _, _⟩ := among_ev hl a s h0 (by omega) [0, 1, 2, 5, -3, 10000, 10001, -10001, 4611686018427387904] (by decide) (by decide)
    exact ⟨x, Ev.step (fun k => by simp only [spec_DrawCountTilts.j0]; exact rfl) (ifn Bool.false_ne_true (somb e4 (done rfl)))⟩
  obtain ⟨m, hm⟩ : ∃ m, Ev (fun k => (spec_l9Arms.f k ws ar).bind fun t272 => (if t272 = true then (if (ss.length : Int) = (ws.length : Int) then ((spec_l1Cur_one.f l a3 s3 4).bind fun bt273 => (spec_DrawCountTilts.j0 k ws ar ss (!bt273.1) l bt273.2.1 bt273.2.2)) else (spec_DrawCountTilts.j0 k ws ar ss false l a3 s3)) else (spec_DrawCountTilts.j0 k ws ar ss false l a3 s3))) (ws, ar, m) := by
    obtain ⟨m1, q1⟩ := no a3 s3 h8 (by omega)
    cases hr : ArmsOK ws ar with
    | false => rw [hr] at f; exact ⟨m1, Ev.bind f (ifn Bool.false_ne_true q1)⟩
    | true =>
      rw [hr] at f
      by_cases c : (ss.length : Int) = (ws.length : Int)
      · obtain ⟨b, a4, s4, e4, b0, b1⟩ := one_ev hl a3 s3 h8 (by omega) 4 (by omega)
        cases b with
        | true =>
          obtain ⟨m2, q2⟩ := no a4 s4 (by omega) (by omega)
          exact ⟨m2, Ev.bind f (ifp (Eq.refl true) (ifp c (somb e4 q2)))⟩
        | false =>
          obtain ⟨r, er⟩ := moment_any ws ar ss (by omega) (armsV hr).1 (by omega) 0 (Nat.zero_le _) 0
          have er' : Ev (fun k => spec_l9Moment.f k ws ar ss) r := er
          have q3 : Ev (fun k => spec_DrawCountTilts.j0 k ws ar ss true l a4 s4) (ws, ar, r) := Ev.step (fun k => by simp only [spec_DrawCountTilts.j0]; exact rfl) (ifp (Eq.refl true) (Ev.bind er' (done rfl)))
          exact ⟨r, Ev.bind f (ifp (Eq.refl true) (ifp c (somb e4 q3)))⟩
      · exact ⟨m1, Ev.bind f (ifp (Eq.refl true) (ifn c q1))⟩
  exact ⟨ws, ar, m, Ev.bind e1 (Ev.bind e2 (Ev.bind e3 hm)), h1, h4⟩
theorem count_ok {ws ar : List Int} (h : ArmsOK ws ar = true) (m : Int) (h1 : -10000 ≤ m) (h2 : m ≤ 10000) : Ev (fun k => impl_CountTilts.f k ws ar m) ((N ws ar m : Int), true) := by
  have o := Ok.of h
  have key := (PureCountTilts.both ws (by have := o.lw; omega) ar (by have := o.lw; have := o.la; omega) m).2
  unfold PureCountTilts.Res at key
  rw [if_pos ⟨h, h1, h2⟩] at key
  exact key
theorem least_ok {ws ar : List Int} (h : ArmsOK ws ar = true) : Ev (fun k => impl_LeastTilt.f k ws ar) ((Best ws ar).1, (Best ws ar).2, true) := by
  have o := Ok.of h
  have key := (PureLeastTilt.both ws (by have := o.lw; omega) ar (by have := o.lw; have := o.la; omega)).2
  unfold PureLeastTilt.Res at key
  rw [if_pos h] at key
  exact key
section
variable {ws ar : List Int}
/-- The sum over all moments. -/
theorem sums (h : ArmsOK ws ar = true) (t : Int) (ht : t = (Best ws ar).2 ∨ t = -(Best ws ar).2) : ∀ d : Nat, (owns ws ar).sum < 400 → ∀ x : Int, -(owns ws ar).sum ≤ x → x + (d : Int) = (owns ws ar).sum + 1 → Ev (fun k => laws_FnTilts.l1 k ws ar (Best ws ar).2 true t true (owns ws ar).sum (Less ws ar x : Int) x) true := by
  have o := Ok.of h
  have lw := o.lw
  obtain ⟨⟨cb, hcb, hb⟩, hmin⟩ := best_is o
  have hpw : 2 ^ ws.length ≤ 2 ^ 12 := Nat.pow_le_pow_right (by decide) lw
  obtain ⟨s1, s2, s3⟩ := sum_b _ (owns_b o.ha o.hw)
  have bb := mo_b o cb
  have hB : 0 ≤ (Best ws ar).2 ∧ (Best ws ar).2 ≤ 7128 := by
    rw [hb]
    show 0 ≤ sz (mo ws ar cb) ∧ sz (mo ws ar cb) ≤ 7128
    rw [sz_eq bb.1 bb.2]; split <;> omega
  have hall := Less_all o
  obtain ⟨T, hT⟩ : ∃ T, (owns ws ar).sum = T := ⟨_, rfl⟩
  obtain ⟨B, hBB⟩ : ∃ B, (Best ws ar).2 = B := ⟨_, rfl⟩
  rw [hT] at s1 s2 hall
  rw [hBB] at hB
  rw [hBB] at ht hmin
  rw [hT, hBB]
  intro d hlt
  induction d with
  | zero =>
    intro x hx1 hx2
    have ex : x = T + 1 := by omega
    subst ex
    refine Ev.step (fun k => by simp only [laws_FnTilts.l1]; exact rfl) (ifp hlt ?_)
    rw [decide_eq_false (show ¬ T + 1 ≤ T by omega)]
    have wn : wrap64 (-B) = -B := w64 (by omega) (by omega)
    have es : ((Less ws ar (T + 1) : Int) == shl .i64 1 (ws.length : Int)) = true := by
      rw [hall, shlN (rfl : (ws.length : Int) = ws.length) (by omega)]; exact beq_iff_eq.2 rfl
    refine Ev.step (fun k => by simp only [laws_FnTilts.j4]; exact rfl) (ifn Bool.false_ne_true (ifp (Eq.refl true) (ifp (Eq.refl true) ?_)))
    rw [wn]
    by_cases c : t = B
    · exact ifp c (ifn (by omega) (done es))
    · exact ifn c (ifp (ht.resolve_left c) (ifn (by omega) (done es)))
  | succ d ih =>
    intro x hx1 hx2
    have e := ih (x + 1) (by omega) (by omega)
    have n1 := N_le ws ar x
    have n2 := Less_le ws ar x
    have ec := count_ok h x (by omega) (by omega)
    have wx : wrap64 (x + 1) = x + 1 := w64 (by omega) (by omega)
    have wl : wrap64 ((Less ws ar x : Int) + (N ws ar x : Int)) = (Less ws ar (x + 1) : Int) := by rw [Less_succ, w64 (by omega) (by omega)]; omega
    have wn : wrap64 (-x) = -x := w64 (by omega) (by omega)
    rw [← wl, ← wx] at e
    have big : 0 < N ws ar x → (x < 0 → ¬ -x < B) ∧ (0 ≤ x → ¬ x < B) := by
      intro hp
      obtain ⟨c, hc, em⟩ := N_some hp
      have q := hmin c hc
      have b2 := mo_b o c
      rw [em] at q b2
      rw [sz_eq b2.1 b2.2] at q
      constructor
      · intro hx; rw [if_pos hx] at q; omega
      · intro hx; rw [if_neg (by omega)] at q; omega
    refine Ev.step (fun k => by simp only [laws_FnTilts.l1]; exact rfl) (ifp hlt ?_)
    rw [decide_eq_true (show x ≤ T by omega)]
    refine Ev.step (fun k => by simp only [laws_FnTilts.j4]; exact rfl) (ifp (Eq.refl true) (Ev.bind ec (ifp (Eq.refl true) ?_)))
    by_cases hp : (N ws ar x : Int) > 0
    · obtain ⟨b1, b2⟩ := big (by omega)
      refine ifp hp ?_
      rw [wn]
      by_cases c1 : x < 0
      · exact ifp c1 (ifn (b1 c1) (ifn (by omega) e))
      · exact ifn c1 (ifp (by omega) (ifn (b2 (by omega)) e))
    · exact ifn hp e
/-- The total of what the weights do. -/
theorem total (h : ArmsOK ws ar = true) (t : Int) (ht : t = (Best ws ar).2 ∨ t = -(Best ws ar).2) : ∀ i, i ≤ ws.length → Ev (fun k => laws_FnTilts.l0 k ws ar (Best ws ar).2 true t true ((owns ws ar).take i).sum 0 (i : Int)) true := by
  have o := Ok.of h
  have lw := o.lw
  have la := o.la
  have ol := owns_len la
  have ob := owns_b o.ha o.hw
  obtain ⟨s1, s2, s3⟩ := sum_b _ ob
  refine downTo ws.length ?_ ?_
  · refine Ev.step (fun k => by simp only [laws_FnTilts.l0]; exact rfl) (ifn (by omega) ?_)
    rw [← ol, List.take_length, w64 (x := -(owns ws ar).sum) (by omega) (by omega)]
    by_cases c : (owns ws ar).sum < 400
    · have e := sums h t ht ((owns ws ar).sum + 1 + (owns ws ar).sum).toNat c (-(owns ws ar).sum) (Int.le_refl _) (by omega)
      rw [Less_none o] at e
      exact e
    · obtain ⟨⟨cb, hcb, hb⟩, hmin⟩ := best_is o
      have bb := mo_b o cb
      have hB : 0 ≤ (Best ws ar).2 ∧ (Best ws ar).2 ≤ 7128 := by
        rw [hb]
        show 0 ≤ sz (mo ws ar cb) ∧ sz (mo ws ar cb) ≤ 7128
        rw [sz_eq bb.1 bb.2]; split <;> omega
      have wn : wrap64 (-(Best ws ar).2) = -(Best ws ar).2 := w64 (by omega) (by omega)
      refine Ev.step (fun k => by simp only [laws_FnTilts.l1]; exact rfl) (ifn c ?_)
      refine Ev.step (fun k => by simp only [laws_FnTilts.j4]; exact rfl) (ifn Bool.false_ne_true (ifp (Eq.refl true) (ifp (Eq.refl true) ?_)))
      rw [wn]
      by_cases c2 : t = (Best ws ar).2
      · exact ifp c2 (ifp (by omega) (done rfl))
      · exact ifn c2 (ifp (ht.resolve_left c2) (ifp (by omega) (done rfl)))
  · intro i hi ih
    have a1 : i < ar.length := by omega
    have a2 : i < (owns ws ar).length := by omega
    have hb := prod_b (o.hw ws[i] (List.getElem_mem hi)) (o.ha ar[i] (List.getElem_mem a1))
    obtain ⟨t1, t2, t3⟩ := sum_b ((owns ws ar).take i) (fun x hx => ob x (List.mem_of_mem_take hx))
    have hl : ((owns ws ar).take i).length ≤ 12 := by rw [List.length_take]; omega
    have e : ((owns ws ar).take (i + 1)).sum = ((owns ws ar).take i).sum + ws[i] * ar[i] := by
      rw [take_succ a2, owns_at hi a1 a2, List.sum_append]; simp
    rw [e, ← wrapS hi (by omega)] at ih
    refine Ev.step (fun k => by simp only [laws_FnTilts.l0]; exact rfl) (ifp (by omega) (ifp (by omega) (ifp (by omega) ?_)))
    rw [rd_lt hi, rd_lt a1, w64 (x := ws[i] * ar[i]) (by omega) (by omega), w64 (x := _ + _) (by omega) (by omega)]
    exact ih
end
theorem FnTilts : laws_FnTilts.Pure := by
  intro l _ hl hb
  refine Ev.rounds ?_
  unfold laws_FnTilts.f
  refine somb (vBig_eq l) (ifc (fun _ => done rfl) fun hbig => ?_)
  have hB := bytes_of hb
  have hlen : l.length ≤ 65536 := by simpa using hbig
  obtain ⟨c1, v1, d1, _⟩ := vCut_ev hB hlen 1 (by omega)
  obtain ⟨c2, v2, d2, _⟩ := vCut_ev hB hlen 2 (by omega)
  obtain ⟨wA, aA, eA, hwA, haA⟩ := DrawLeastTilt_ev hB
  obtain ⟨wB, aB, m, eB, hwB, haB⟩ := DrawCountTilts_ev d1
  obtain ⟨wC, aC, sC, eC, hwC, haC, hsC⟩ := DrawTiltRow_ev d2
  obtain ⟨p1, p2⟩ := PureLeastTilt.both wA (by omega) aA (by omega)
  obtain ⟨q1, q2⟩ := PureCountTilts.both wB (by omega) aB (by omega) m
  obtain ⟨r1, r2⟩ := PureTiltRows.both wC (by omega) aC (by omega) sC (by omega)
  have lA := PureLeastTilt.res_len wA aA
  have lC : (PureTiltRows.Res wC aC sC).1.length ≤ 13 := by
    unfold PureTiltRows.Res
    split
    · show (rows wC (places aC sC)).length ≤ 13
      unfold rows; rw [List.length_zipWith]; omega
    · simp
  refine Ev.bind eA (Ev.bind p2 (Ev.bind p1 (somb v1 (Ev.bind eB (Ev.bind q2 (Ev.bind q1 (somb v2 (Ev.bind eC (Ev.bind r2 (Ev.bind r1 (ifn (by simp) (Ev.bind (vInts_ev _ (by omega)) (ifp (Eq.refl true) (ifp rfl (ifp rfl (ifn (by simp) (ifn (by simp) (Ev.bind (vRow_ev _ (by omega)) (ifp (Eq.refl true) ?_)))))))))))))))))))
  have last : Ev (fun k => laws_FnTilts.j1 k wA aA (PureLeastTilt.Res wA aA).1 (PureLeastTilt.Res wA aA).2.1 (PureLeastTilt.Res wA aA).2.2) true := by
    refine Ev.step (fun k => by simp only [laws_FnTilts.j1]; exact rfl) ?_
    unfold PureLeastTilt.Res
    by_cases h : ArmsOK wA aA = true
    · rw [if_pos h]
      have o := Ok.of h
      obtain ⟨⟨cb, hcb, hbest⟩, hmin⟩ := best_is o
      have b1 : (Best wA aA).1 = tiltS wA.length cb := by rw [hbest]
      have b2 : (Best wA aA).2 = sz (mo wA aA cb) := by rw [hbest]
      have bb := mo_b o cb
      have tl := tiltS_len wA.length cb
      have t2 := tiltS_two wA.length cb
      have hrow := (PureTiltRows.both wA (by omega) aA (by omega) (tiltS wA.length cb) (by omega)).2
      have hsg : (tiltS wA.length cb).all Sg = true := by
        rw [List.all_eq_true]; intro x hx; rw [Sg_eq]; exact decide_eq_true (t2 x hx)
      unfold PureTiltRows.Res at hrow
      rw [if_pos ⟨h, tl, hsg⟩] at hrow
      have hm := moment_row o tl t2
      have ht : mo wA aA cb = (Best wA aA).2 ∨ mo wA aA cb = -(Best wA aA).2 := by
        rw [b2, sz_eq bb.1 bb.2]; split <;> omega
      have tot := total h (mo wA aA cb) ht 0 (Nat.zero_le _)
      refine ifp (Eq.refl true) ?_
      show Ev (fun k => (impl_TiltRow.f k wA aA (Best wA aA).1).bind fun bt450 => ((impl_MomentAbout.f k bt450.1 30).bind fun bt454 => (laws_FnTilts.l0 k wA aA (Best wA aA).2 bt450.2 bt454.1 bt454.2 0 0 0))) true
      rw [b1]
      exact Ev.bind hrow (Ev.bind hm tot)
    · rw [if_neg h]
      exact ifn Bool.false_ne_true (done rfl)
  have mid : Ev (fun k => laws_FnTilts.j0 k wA aA (PureLeastTilt.Res wA aA).1 (PureLeastTilt.Res wA aA).2.1 (PureLeastTilt.Res wA aA).2.2 wC aC (PureTiltRows.Res wC aC sC).1 (PureTiltRows.Res wC aC sC).2) true := by
    refine Ev.step (fun k => by simp only [laws_FnTilts.j0]; exact rfl) ?_
    unfold PureTiltRows.Res
    by_cases h : ArmsOK wC aC = true ∧ sC.length = wC.length ∧ sC.all Sg = true
    · rw [if_pos h]
      obtain ⟨h1, h2, h3⟩ := h
      have o := Ok.of h1
      have t2 : ∀ x ∈ sC, x = 1 ∨ x = -1 := by
        intro x hx
        have := List.all_eq_true.1 h3 x hx
        rw [Sg_eq] at this
        exact of_decide_eq_true this
      obtain ⟨c, hc, ec⟩ := tilt_of sC t2
      rw [h2] at hc ec
      have em : mom wC aC sC = mo wC aC c := by unfold mo; rw [ec]
      have hm := moment_row o h2 t2
      rw [em] at hm
      have bb := mo_b o c
      have hcnt := count_ok h1 (mo wC aC c) (by omega) (by omega)
      have hle := least_ok h1
      have np := N_pos (ar := aC) hc
      obtain ⟨⟨cb, hcb, hbest⟩, hmin⟩ := best_is o
      have hq := hmin c hc
      rw [sz_eq bb.1 bb.2] at hq
      have bl : ((Best wC aC).1.length : Int) = (wC.length : Int) := by rw [hbest]; show ((tiltS wC.length cb).length : Int) = _; rw [tiltS_len]
      have wn : wrap64 (-(mo wC aC c)) = -(mo wC aC c) := w64 (by omega) (by omega)
      refine ifp (Eq.refl true) (Ev.bind hm (Ev.bind hcnt (Ev.bind hle ?_)))
      show Ev (fun k => if mo wC aC c < 0 then _ else _) true
      by_cases c3 : mo wC aC c < 0
      · rw [if_pos c3] at hq
        refine ifp c3 (ifp (Eq.refl true) (ifp (Eq.refl true) (ifp (Eq.refl true) (ifn (by show ¬ (N wC aC (mo wC aC c) : Int) < 1; omega) (ifn ?_ (ifp bl last))))))
        show ¬ (Best wC aC).2 > wrap64 (-(mo wC aC c))
        rw [wn]; omega
      · rw [if_neg c3] at hq
        refine ifn c3 (ifp (Eq.refl true) (ifp (Eq.refl true) (ifp (Eq.refl true) (ifn (by show ¬ (N wC aC (mo wC aC c) : Int) < 1; omega) (ifn ?_ (ifp bl last))))))
        show ¬ (Best wC aC).2 > mo wC aC c
        omega
    · rw [if_neg h]
      exact ifn Bool.false_ne_true last
  unfold PureCountTilts.Res
  by_cases h : ArmsOK wB aB = true ∧ -10000 ≤ m ∧ m ≤ 10000
  · rw [if_pos h]
    obtain ⟨h1, h2, h3⟩ := h
    have o := Ok.of h1
    have wn : wrap64 (-m) = -m := w64 (by omega) (by omega)
    have hc := count_ok h1 (-m) (by omega) (by omega)
    rw [N_neg o.la, ← wn] at hc
    exact ifp (Eq.refl true) (Ev.bind hc (ifp (Eq.refl true) (ifp rfl mid)))
  · rw [if_neg h]
    exact ifn Bool.false_ne_true mid
end Go.Proofs.Ytkedfmmmjopofaa.Pure
