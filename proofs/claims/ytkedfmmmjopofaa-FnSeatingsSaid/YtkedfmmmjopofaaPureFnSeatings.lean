/- The plain law of FnSeatings: even seatings are rows of the moment 0, as many mirrored as not, and the first one is a seating. No conditions. -/
import Derived.Test.YtkedfmmmjopofaaDrawTilt
import Derived.Test.YtkedfmmmjopofaaMirror
import Derived.Test.YtkedfmmmjopofaaEvensCount
import Derived.Test.YtkedfmmmjopofaaEvensFirst
import Derived.Test.YtkedfmmmjopofaaXSex19
namespace Go.Proofs.Ytkedfmmmjopofaa.Pure
open Go.RowKit Go.Proofs.Ytkedfmmmjopofaa.XSe Go.Proofs.Ytkedfmmmjopofaa.Plain Go.Proofs.Ytkedfmmmjopofaa.PureDraw Go.Proofs.Ytkedfmmmjopofaa.PureDrawTilt Go.Proofs.Ytkedfmmmjopofaa.PureSeats Go.Proofs.Ytkedfmmmjopofaa.PureEvens Go.Proofs.Ytkedfmmmjopofaa.PureRowsX Go.Proofs.Ytkedfmmmjopofaa.PureSeatX Go.Proofs.Ytkedfmmmjopofaa.PureMirror Go.Proofs.YtkedfmmmjopofaaW.PrintWords Go.Proofs.YtkedfmmmjopofaaW.PrintLast Go.Proofs.YtkedfmmmjopofaaW.PrintMore
set_option linter.unusedVariables false
theorem vInts_l0 (l : List Int) (hn : l.length ≤ 140737488355328) : ∀ i, i ≤ l.length → Ev (fun k => laws_vInts.l0 k l l (i : Int)) true := by
  refine downTo l.length ?_ ?_
  · exact Ev.step (fun k => by simp only [laws_vInts.l0]; exact rfl) (ifn (by omega) (done rfl))
  · intro i hi ih
    refine Ev.step (fun k => by simp only [laws_vInts.l0]; exact rfl) (ifp (by omega) (ifp (by omega) (ifp (by omega) (ifp (Eq.refl (rd l (i : Int))) ?_))))
    rw [wrapS hi hn]; exact ih
theorem vInts_ev (l : List Int) (hn : l.length ≤ 140737488355328) : Ev (fun k => laws_vInts.f k l l) true := by
  unfold laws_vInts.f
  exact ifp rfl (vInts_l0 l hn 0 (Nat.zero_le _))
theorem vRow_l0 (l : List (S73)) (hn : l.length ≤ 140737488355328) : ∀ i, i ≤ l.length → Ev (fun k => laws_vRow.l0 k l l (i : Int)) true := by
  refine downTo l.length ?_ ?_
  · exact Ev.step (fun k => by simp only [laws_vRow.l0]; exact rfl) (ifn (by omega) (done rfl))
  · intro i hi ih
    refine Ev.step (fun k => by simp only [laws_vRow.l0]; exact rfl) (ifp (by omega) (ifp (by omega) (ifp (by omega) (ifn (by simp) ?_))))
    rw [wrapS hi hn]; exact ih
theorem vRow_ev (l : List (S73)) (hn : l.length ≤ 140737488355328) : Ev (fun k => laws_vRow.f k l l) true := by
  unfold laws_vRow.f
  exact ifp rfl (vRow_l0 l hn 0 (Nat.zero_le _))
/-! ### draws -/
theorem side9_ev {l : List Int} (hl : Bytes l) (a s : Int) (h0 : 0 ≤ a) (h1 : a ≤ 4611686018427370000) : ∃ x a' s', spec_l1Cur_side9.f l a s = some (x, a', s') ∧ 0 ≤ x ∧ x ≤ 7 ∧ a ≤ a' ∧ a' ≤ a + 4 := by
  obtain ⟨t, a1, s1, e1, ⟨t0, t1⟩, b0, b1⟩ := pick_ev hl a s h0 (by omega) 24 (by omega)
  have t2 := t1 (by omega)
  have d : 0 ≤ Int.tdiv t 8 ∧ Int.tdiv t 8 ≤ 2 := by rw [Int.tdiv_eq_ediv_of_nonneg t0]; omega
  obtain ⟨j, hj⟩ : ∃ j, Int.tdiv t 8 = j := ⟨_, rfl⟩
  rw [hj] at d
  have w : wrap64 (5 + wrap64 j) = 5 + j := by rw [w64 (x := j) (by omega) (by omega), w64 (by omega) (by omega)]
  have hlen : (([3, 2, 4, 1, 5, 6, 0, 7] : List Int).take (5 + j).toNat).length = (5 + j).toNat := by rw [List.length_take]; simp; omega
  obtain ⟨x, a2, s2, e2, hx, b2, b3⟩ := among_ev hl a1 s1 (by omega) (by omega) (([3, 2, 4, 1, 5, 6, 0, 7] : List Int).take (5 + j).toNat) (by rw [hlen]; omega) (by rw [hlen]; omega)
  have hx2 := List.mem_of_mem_take hx
  have m1 := small_of hx2 7 (by decide)
  have m0 : 0 ≤ x := by
    have := List.all_eq_true.1 (show ([3, 2, 4, 1, 5, 6, 0, 7] : List Int).all (fun y => decide (0 ≤ y)) = true by decide) x hx2
    simpa using this
  refine ⟨x, a2, s2, ?_, m0, m1, by omega, by omega⟩
  unfold spec_l1Cur_side9.f
  rw [e1, Option.bind_some]
  show (if 0 ≤ wrap64 (5 + wrap64 (Int.tdiv t 8)) then _ else _) = _
  rw [hj, w, if_pos (by omega), if_pos (by omega)]
  exact e2
theorem DrawFirstEven_ev {l : List Int} (hl : Bytes l) : ∃ (ws : List Int) (k : Int), Ev (fun n => spec_DrawFirstEven.f n l) (ws, k) ∧ ws.length ≤ 13 := by
  obtain ⟨ws, a1, s1, e1, h1, h2, h3⟩ := weights9_ev hl 0 0 (by omega) (by omega)
  obtain ⟨x, a2, s2, e2, x0, x1, b0, b1⟩ := side9_ev hl a1 s1 h2 (by omega)
  unfold spec_DrawFirstEven.f spec_l1Cur_few9.f
  by_cases c : (ws.length : Int) > 4
  · have hl3 : ∃ y, spec_l1Least.f x 3 = some y := by unfold spec_l1Least.f; split <;> exact ⟨_, rfl⟩
    obtain ⟨y, hy⟩ := hl3
    exact ⟨ws, y, Ev.bind (a := (ws, y, a2, s2)) (Ev.bind e1 (somb e2 (ifp c (somb hy (done rfl))))) (done rfl), h1⟩
  · exact ⟨ws, x, Ev.bind (a := (ws, x, a2, s2)) (Ev.bind e1 (somb e2 (ifn c (done rfl)))) (done rfl), h1⟩
theorem seats_l0 {l : List Int} (hl : Bytes l) (ws : List Int) (hw : ws.length ≤ 13) (kk : Int) (hk : 0 ≤ kk ∧ kk ≤ 7) : ∀ i, i ≤ ws.length → ∀ acc : List Int, acc.length = i → ∀ a s : Int, 0 ≤ a → a ≤ 4611686018427370000 + 2 * (i : Int) → ∃ r : List Int, Ev (fun k => spec_DrawIsSeating.l0 k ws kk acc (i : Int) l a s) (ws, kk, r) ∧ r.length ≤ 14 := by
  have hm : spec_l1Most.f kk 0 = some kk := by
    unfold spec_l1Most.f
    by_cases c : kk > 0
    · rw [if_pos c]
    · rw [if_neg c, show kk = 0 from by omega]
  refine downTo ws.length ?_ ?_
  · intro acc hacc a s h0 h1
    obtain ⟨q, a1, s1, e1, b0, b1⟩ := one_ev hl a s h0 (by omega) 24 (by omega)
    have hlim : acc.length < 17592186044416 := by omega
    cases q with
    | true => exact ⟨acc ++ [30], Ev.step (fun k => by simp only [spec_DrawIsSeating.l0]; exact rfl) (ifn (by omega) (somb e1 (ifp (Eq.refl true) (ifp hlim (done rfl))))), by rw [List.length_append, List.length_singleton]; omega⟩
    | false => exact ⟨acc, Ev.step (fun k => by simp only [spec_DrawIsSeating.l0]; exact rfl) (ifn (by omega) (somb e1 (ifn Bool.false_ne_true (done rfl)))), by omega⟩
  · intro i hi ih acc hacc a s h0 h1
    have hlim : acc.length < 17592186044416 := by omega
    have hw2 : wrap64 (wrap64 (2 * kk) + 1) = 2 * kk + 1 := by rw [w64 (x := 2 * kk) (by omega) (by omega), w64 (by omega) (by omega)]
    obtain ⟨x, a1, s1, e1, _, b0, b1⟩ := pick_ev hl a s h0 (by omega) (2 * kk + 1) (by omega)
    rw [← hw2] at e1
    obtain ⟨r, e, h2⟩ := ih (acc ++ [wrap64 (wrap64 (30 - kk) + x)]) (by simp [hacc]) a1 s1 (by omega) (by omega)
    rw [← wrapS hi (by omega)] at e
    exact ⟨r, Ev.step (fun k => by simp only [spec_DrawIsSeating.l0]; exact rfl) (ifp (by omega) (somb hm (somb e1 (ifp hlim e)))), h2⟩
theorem DrawSeatRow_ev {l : List Int} (hl : Bytes l) : ∃ (ws : List Int) (k : Int) (ss : List Int), Ev (fun n => spec_DrawSeatRow.f n l) (ws, k, ss) ∧ ws.length ≤ 13 ∧ ss.length ≤ 14 := by
  obtain ⟨ws, a1, s1, e1, h1, h2, h3⟩ := weights9_ev hl 0 0 (by omega) (by omega)
  obtain ⟨x, a2, s2, e2, x0, x1, b0, b1⟩ := side9_ev hl a1 s1 h2 (by omega)
  have hl3 : ∃ y, spec_l1Least.f x 3 = some y := by unfold spec_l1Least.f; split <;> exact ⟨_, rfl⟩
  obtain ⟨y, hy⟩ := hl3
  have f := (PureEvensFirst.both ws (by omega) y).1
  have fl := PureEvensFirst.res_len ws y
  obtain ⟨r, hr⟩ : ∃ r, PureEvensFirst.Res ws y = r := ⟨_, rfl⟩
  rw [hr] at f fl
  have no : ∀ a s : Int, 0 ≤ a → a ≤ 4611686018427370000 → ∃ ss, Ev (fun k => spec_DrawIsSeating.j0 k ws x r.1 false l a s) (ws, x, ss) ∧ ss.length ≤ 14 := by
    intro a s h0 h1'
    obtain ⟨ss, e, hs⟩ := seats_l0 hl ws h1 x ⟨x0, x1⟩ 0 (Nat.zero_le _) [] rfl a s h0 (by omega)
    exact ⟨ss, Ev.step (fun k => by simp only [spec_DrawIsSeating.j0]; exact rfl) (ifn Bool.false_ne_true e), hs⟩
  unfold spec_DrawSeatRow.f spec_DrawIsSeating.f
  by_cases c : r.2 = true
  · obtain ⟨b, a3, s3, e3, b2, b3⟩ := one_ev hl a2 s2 (by omega) (by omega) 3 (by omega)
    cases b with
    | true =>
      have q : Ev (fun k => spec_DrawIsSeating.j0 k ws x r.1 true l a3 s3) (ws, x, r.1) := Ev.step (fun k => by simp only [spec_DrawIsSeating.j0]; exact rfl) (ifp (Eq.refl true) (done rfl))
      exact ⟨ws, x, r.1, Ev.bind (a := (ws, x, r.1)) (Ev.bind e1 (somb e2 (somb hy (Ev.bind f (ifp c (somb e3 q)))))) (done rfl), h1, by omega⟩
    | false =>
      obtain ⟨ss, q, hs⟩ := no a3 s3 (by omega) (by omega)
      exact ⟨ws, x, ss, Ev.bind (a := (ws, x, ss)) (Ev.bind e1 (somb e2 (somb hy (Ev.bind f (ifp c (somb e3 q)))))) (done rfl), h1, hs⟩
  · obtain ⟨ss, q, hs⟩ := no a2 s2 (by omega) (by omega)
    exact ⟨ws, x, ss, Ev.bind (a := (ws, x, ss)) (Ev.bind e1 (somb e2 (somb hy (Ev.bind f (ifn c q))))) (done rfl), h1, hs⟩
/-! ### weights of rows -/
def wt : List (S73) → Int
  | [] => 0
  | x :: r => x.f1 + wt r
theorem wt_cons (x : S73) (r : List (S73)) : wt (x :: r) = x.f1 + wt r := rfl
theorem wt_b : ∀ l : List (S73), (∀ x ∈ l, 1 ≤ x.f1 ∧ x.f1 ≤ 99) → 0 ≤ wt l ∧ wt l ≤ 99 * (l.length : Int) := by
  intro l
  induction l with
  | nil => intro _; simp [wt]
  | cons x l ih =>
    intro h
    have h1 := ih (fun y hy => h y (List.mem_cons_of_mem _ hy))
    have h2 := h x (List.mem_cons_self ..)
    rw [List.length_cons]
    unfold wt
    omega
theorem weight_l0 {l : List (S73)} (h : PureMoment.RowV l) : ∀ i, i ≤ l.length → ∀ acc : Int, 0 ≤ acc → acc ≤ 99 * (i : Int) → Ev (fun k => impl_weightOf.l0 k acc l (l.length : Int) (i : Int)) (acc + wt (l.drop i)) := by
  have hn := h.n
  refine downTo l.length ?_ ?_
  · intro acc _ _
    rw [List.drop_length]
    exact Ev.step (fun k => by simp only [impl_weightOf.l0]; exact rfl) (ifn (by omega) (done (by simp [wt])))
  · intro i hi ih acc h0 h1
    have he := h.each l[i] (List.getElem_mem hi)
    have e := ih (acc + l[i].f1) (by omega) (by omega)
    refine Ev.step (fun k => by simp only [impl_weightOf.l0]; exact rfl) (ifp (by omega) (ifp (by omega) (ifp (by omega) ?_)))
    rw [PureRow.rdL hi, w64 (x := acc + l[i].f1) (by omega) (by omega), wrapS hi (by omega), drop_cons hi, show acc + wt (l[i] :: l.drop (i + 1)) = acc + l[i].f1 + wt (l.drop (i + 1)) from by rw [wt_cons]; omega]
    exact e
theorem WeightOf_ev (l : List (S73)) (hr : PureRow.RowOK l = true) : Ev (fun k => impl_WeightOf.f k l) (wt l, true) := by
  have hv := PureMoment.rowV hr
  have h1 := PureRow.isRow_ev l (by have := hv.n; omega)
  rw [hr] at h1
  have e := weight_l0 hv 0 (Nat.zero_le _) 0 (Int.le_refl _) (by omega)
  rw [Int.zero_add, List.drop_zero] at e
  unfold impl_WeightOf.f
  exact Ev.bind h1 (ifp (Eq.refl true) (Ev.bind (a := wt l) e (done rfl)))
theorem wt_rows : ∀ ws xs : List Int, xs.length = ws.length → wt (rows ws xs) = ws.sum := by
  intro ws
  induction ws with
  | nil => intro xs _; rfl
  | cons w ws ih =>
    intro xs h
    cases xs with
    | nil => simp at h
    | cons x xs =>
      show w + wt (rows ws xs) = (w :: ws).sum
      rw [ih xs (by simpa using h), List.sum_cons]
theorem sum_b : ∀ l : List Int, (∀ x ∈ l, 1 ≤ x ∧ x ≤ 99) → 0 ≤ l.sum ∧ l.sum ≤ 99 * (l.length : Int) := by
  intro l
  induction l with
  | nil => intro _; simp
  | cons x l ih =>
    intro h
    have h1 := ih (fun y hy => h y (List.mem_cons_of_mem _ hy))
    have h2 := h x (List.mem_cons_self ..)
    rw [List.length_cons, List.sum_cons]
    omega
theorem vAdd_l0 (l : List Int) (hn : l.length ≤ 12) (hl : ∀ x ∈ l, 1 ≤ x ∧ x ≤ 99) : ∀ i, i ≤ l.length → Ev (fun k => laws_vAdd.l0 k l (l.take i).sum (i : Int)) l.sum := by
  refine downTo l.length ?_ ?_
  · exact Ev.step (fun k => by simp only [laws_vAdd.l0]; exact rfl) (ifn (by omega) (done (by rw [List.take_length])))
  · intro i hi ih
    have h1 := sum_b (l.take i) (fun x hx => hl x (List.mem_of_mem_take hx))
    have h2 := hl l[i] (List.getElem_mem hi)
    have h3 : (l.take i).length ≤ 12 := by rw [List.length_take]; omega
    rw [take_succ hi, List.sum_append, ← wrapS hi (by omega)] at ih
    refine Ev.step (fun k => by simp only [laws_vAdd.l0]; exact rfl) (ifp (by omega) (ifp (by omega) ?_))
    rw [rd_lt hi, w64 (x := (l.take i).sum + l[i]) (by omega) (by omega)]
    simpa using ih
/-! ### the law -/
theorem mirror_l0 {ws : List Int} {kk : Int} {x : List Int} (hw : WsOK ws = true) (hk : Sx kk = true) (hs : SeatOK ws kk x = true) (hm : mo ws x = 0) (many : Int) (hp : ws.length ≠ 0 → Int.tmod many 2 = 0) : ∀ i, i ≤ x.length → Ev (fun k => laws_FnSeatings.l0 k ws kk x many ((mir x).take i) (i : Int)) true := by
  obtain ⟨v1, v2⟩ := seatV hk hs
  have w12 := (wsV hw).1
  refine downTo x.length ?_ ?_
  · have hsm := mir_ok hk hs
    have r := (both ws (by omega) kk (mir x) (by rw [mir_len]; omega)).2.2
    unfold RowRes at r
    rw [if_pos ⟨⟨hw, hk⟩, hsm⟩] at r
    have m := moment_row hw hk hsm
    have e0 : mo ws (mir x) = 0 := by rw [mo_mir, hm]; rfl
    rw [← mir_len x, List.take_length]
    refine Ev.step (fun k => by simp only [laws_FnSeatings.l0]; exact rfl) (ifn (by rw [mir_len]; omega) (Ev.bind r (Ev.bind m (ifp (Eq.refl true) (ifp (Eq.refl true) (ifp e0 ?_))))))
    by_cases c : (ws.length : Int) = 0
    · exact ifp c (done rfl)
    · exact ifn c (done (by rw [hp (by omega)]; rfl))
  · intro i hi ih
    have hb := v2 x[i] (List.getElem_mem hi)
    have hmi : i < (mir x).length := by rw [mir_len]; exact hi
    have e : (mir x)[i] = 60 - x[i] := by have q := mir_rd hi; rw [rd_lt hmi, rd_lt hi] at q; exact q
    rw [take_succ hmi, e, ← wrapS hi (by omega)] at ih
    have hlim : ((mir x).take i).length < 17592186044416 := by rw [List.length_take, mir_len]; omega
    refine Ev.step (fun k => by simp only [laws_FnSeatings.l0]; exact rfl) (ifp (by omega) (ifp (by omega) (ifp hlim ?_)))
    rw [rd_lt hi, w64 (x := 60 - x[i]) (by omega) (by omega)]
    exact ih
theorem FnSeatings : laws_FnSeatings.Pure := by
  intro l _ hl hb
  refine Ev.rounds ?_
  unfold laws_FnSeatings.f
  refine somb (vBig_eq l) (ifc (fun _ => done rfl) fun hbig => ?_)
  have hB := bytes_of hb
  have hlen : l.length ≤ 65536 := by simpa using hbig
  obtain ⟨c1, v1, d1, _⟩ := vCut_ev hB hlen 1 (by omega)
  obtain ⟨wA, kA, eA, hwA⟩ := DrawFirstEven_ev hB
  obtain ⟨wB, kB, sB, eB, hwB, hsB⟩ := DrawSeatRow_ev d1
  obtain ⟨p1, p2⟩ := PureEvensFirst.both wA (by omega) kA
  obtain ⟨q1, q2⟩ := PureEvensCount.both wA (by omega) kA
  obtain ⟨⟨i1, i2⟩, r1, r2⟩ := both wB (by omega) kB sB (by omega)
  have lA := PureEvensFirst.res_len wA kA
  have lB : (RowRes wB kB sB).1.length ≤ 14 := by
    unfold RowRes
    split
    · show (rows wB sB).length ≤ 14
      unfold rows; rw [List.length_zipWith]; omega
    · simp
  refine Ev.bind eA (Ev.bind p2 (Ev.bind p1 (Ev.bind q2 (Ev.bind q1 (somb v1 (Ev.bind eB (Ev.bind r2 (Ev.bind r1 (Ev.bind i2 (Ev.bind i1 (ifn (by simp) (Ev.bind (vInts_ev _ (by omega)) (ifp (Eq.refl true) (ifp rfl (ifn (by simp) (ifn (by simp) (Ev.bind (vRow_ev _ (by omega)) (ifp (Eq.refl true) (ifn (by simp) (ifn (by simp) ?_))))))))))))))))))))
  obtain ⟨many, hmany⟩ : ∃ m, (PureEvensCount.Res wA kA).1 = m := ⟨_, rfl⟩
  have last : Ev (fun k => laws_FnSeatings.j1 k wA kA (PureEvensFirst.Res wA kA).1 (PureEvensFirst.Res wA kA).2 (PureEvensCount.Res wA kA).1) true := by
    refine Ev.step (fun k => by simp only [laws_FnSeatings.j1]; exact rfl) ?_
    unfold PureEvensFirst.Res PureEvensCount.Res
    by_cases h : CanOK wA kA = true
    · rw [if_pos h, if_pos h]
      have o := Ok.of h
      have hab : WsOK wA = true ∧ Sx kA = true := by
        unfold CanOK at h
        rw [Bool.and_eq_true, Bool.and_eq_true] at h
        exact h.1
      cases hA : All wA kA with
      | nil => exact ifn (by simp) (done rfl)
      | cons x L =>
        obtain ⟨s1, s2⟩ := all_seat o (x := x) (by rw [hA]; exact List.mem_cons_self ..)
        have r := (both wA (by omega) kA x (by have := (seatV hab.2 s1).1; omega)).2.2
        unfold RowRes at r
        rw [if_pos ⟨hab, s1⟩] at r
        have m := moment_row hab.1 hab.2 s1
        have t := mirror_l0 hab.1 hab.2 s1 s2 (((x :: L).length : Nat) : Int) (fun hne => by
          have := all_even o hne
          rw [hA] at this
          rw [Int.tmod_eq_emod_of_nonneg (by omega)]; omega) 0 (Nat.zero_le _)
        refine ifp (by simp) ?_
        exact Ev.bind r (Ev.bind m (ifp (Eq.refl true) (ifp (Eq.refl true) (ifp s2 t))))
    · rw [if_neg h, if_neg h]
      exact ifn Bool.false_ne_true (done rfl)
  have mid : Ev (fun k => laws_FnSeatings.j0 k wA kA (PureEvensFirst.Res wA kA).1 (PureEvensFirst.Res wA kA).2 (PureEvensCount.Res wA kA).1 wB (RowRes wB kB sB).1 (RowRes wB kB sB).2 false) true := by
    refine Ev.step (fun k => by simp only [laws_FnSeatings.j0]; exact rfl) (ifn Bool.false_ne_true ?_)
    unfold RowRes
    by_cases h : (WsOK wB = true ∧ Sx kB = true) ∧ SeatOK wB kB sB = true
    · rw [if_pos h]
      obtain ⟨⟨h1, h2⟩, h3⟩ := h
      have hsl := (seatV h2 h3).1
      have w := WeightOf_ev _ (row_ok h1 h2 h3)
      rw [wt_rows _ _ hsl] at w
      have va : Ev (fun k => laws_vAdd.f k wB) wB.sum := vAdd_l0 wB (wsV h1).1 (wsV h1).2 0 (Nat.zero_le _)
      refine ifp (Eq.refl true) (Ev.bind w (ifp (Eq.refl true) (Ev.bind va (ifp rfl (ifp ?_ last)))))
      show ((rows wB sB).length : Int) = (wB.length : Int)
      rw [rows_len hsl]
    · rw [if_neg h]
      exact ifn Bool.false_ne_true last
  have found : ((PureEvensFirst.Res wA kA).2 != (if (PureEvensCount.Res wA kA).2 = true then decide ((PureEvensCount.Res wA kA).1 > 0) else false)) = false := by
    unfold PureEvensFirst.Res PureEvensCount.Res
    by_cases h : CanOK wA kA = true
    · rw [if_pos h, if_pos h]
      show (decide ((((All wA kA).length : Nat) : Int) > 0) != (if true = true then decide ((((All wA kA).length : Nat) : Int) > 0) else false)) = false
      rw [if_pos rfl]; simp
    · rw [if_neg h, if_neg h]; rfl
  have next : Ev (fun k => if (PureEvensCount.Res wA kA).2 = true then laws_FnSeatings.j0 k wA kA (PureEvensFirst.Res wA kA).1 (PureEvensFirst.Res wA kA).2 (PureEvensCount.Res wA kA).1 wB (RowRes wB kB sB).1 (RowRes wB kB sB).2 ((PureEvensFirst.Res wA kA).2 != decide ((PureEvensCount.Res wA kA).1 > 0)) else laws_FnSeatings.j0 k wA kA (PureEvensFirst.Res wA kA).1 (PureEvensFirst.Res wA kA).2 (PureEvensCount.Res wA kA).1 wB (RowRes wB kB sB).1 (RowRes wB kB sB).2 ((PureEvensFirst.Res wA kA).2 != false)) true := by
    by_cases c : (PureEvensCount.Res wA kA).2 = true
    · rw [if_pos c] at found
      refine ifp c ?_
      rw [found]; exact mid
    · rw [if_neg c] at found
      refine ifn c ?_
      rw [found]; exact mid
  have e2 : (RowRes wB kB sB).2 = ((IsRes wB kB sB).2 && (IsRes wB kB sB).1) := by
    unfold RowRes IsRes
    by_cases h : WsOK wB = true ∧ Sx kB = true
    · rw [if_pos h]
      cases hs : SeatOK wB kB sB with
      | false => rw [if_neg (fun q => Bool.false_ne_true q.2)]; rfl
      | true => rw [if_pos ⟨h, rfl⟩]; rfl
    · rw [if_neg h, if_neg (fun q => h q.1)]; rfl
  cases hc : (IsRes wB kB sB).2 with
  | true =>
    rw [hc, Bool.true_and] at e2
    exact ifp (Eq.refl true) (ifn (by rw [e2]; simp) next)
  | false =>
    rw [hc, Bool.false_and] at e2
    exact ifn Bool.false_ne_true (ifn (by rw [e2]; simp) next)
end Go.Proofs.Ytkedfmmmjopofaa.Pure
