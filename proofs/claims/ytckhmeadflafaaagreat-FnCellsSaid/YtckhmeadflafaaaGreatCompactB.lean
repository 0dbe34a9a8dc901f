/- Bodies in order, each left once: what CompactFunc makes of a sorted list of bodies. No conditions beyond those of the lemmas' own hypotheses. -/
import Derived.Test.YtckhmeadflafaaaGreatCells
import Derived.Test.YtckhmeadflafaaaGreatXFcx7
namespace Go.Proofs.YtckhmeadflafaaaGreat.PureCompactB
open Go.RowKit YtckhmeadflafaaaGreat.XFc YtckhmeadflafaaaGreat.Plain YtckhmeadflafaaaGreat.PureCells YtckhmeadflafaaaGreatW.PrintWords YtckhmeadflafaaaGreatW.PrintLast YtckhmeadflafaaaGreatW.PrintMore
set_option linter.unusedVariables false
set_option linter.unusedSimpArgs false
abbrev Bd := List Cl
theorem ne_flag (u v : Cl) : ((!(u.f0 == v.f0) || (!(u.f1 == v.f1))) = true) ↔ u ≠ v := by
 cases u with
 | mk a b =>
  cases v with
  | mk c d =>
   by_cases h0 : a = c
   ·by_cases h1 : b = d
    ·simp [h0, h1]
    ·simp [h0, h1]
   ·simp [h0]
theorem equal_l0 (x y : Bd) (h : x.length = y.length) (hn : x.length ≤ 1000000) : ∀ i, i ≤ x.length → ∃ r, Ev (fun k => slices_Equal.l0 k x y (x.length : Int) (i : Int)) r ∧ (r = true ↔ x.drop i = y.drop i) := by
 refine downTo x.length ?_ ?_
 ·exact ⟨true, Ev.step (fun k => by simp only [slices_Equal.l0]; exact rfl) (ifn (by omega) (done rfl)), by rw [List.drop_length, List.drop_eq_nil_of_le (show y.length ≤ x.length by omega)]; simp⟩
 ·intro i hi ⟨r, e, hr⟩
  have hi2 : i < y.length := by omega
  by_cases c : x[i] = y[i]
  ·refine ⟨r, Ev.step (fun k => by simp only [slices_Equal.l0]; exact rfl) (ifp (by omega) (ifp (by omega) (ifp (by omega) (ifp (by omega) ?_)))), ?_⟩
   ·rw [rdC hi, rdC hi2, wrapS hi (by omega)]
    exact ifn (fun hh => (ne_flag _ _).1 hh c) e
   ·rw [drop_cons hi, drop_cons hi2, c, hr]; simp only [List.cons.injEq, true_and]
  ·refine ⟨false, Ev.step (fun k => by simp only [slices_Equal.l0]; exact rfl) (ifp (by omega) (ifp (by omega) (ifp (by omega) (ifp (by omega) ?_)))), ?_⟩
   ·rw [rdC hi, rdC hi2]
    exact ifp ((ne_flag _ _).2 c) (done rfl)
   ·rw [drop_cons hi, drop_cons hi2]; simp only [List.cons.injEq, c, false_and, Bool.false_eq_true]
theorem same_ev (x y : Bd) (hn : x.length ≤ 1000000) : ∃ r, Ev (fun k => impl_CountBodies_2.f k x y) r ∧ (r = true ↔ x = y) := by
 unfold impl_CountBodies_2.f slices_Equal.f
 by_cases h : x.length = y.length
 ·obtain ⟨r, e, hr⟩ := equal_l0 x y h hn 0 (Nat.zero_le _)
  rw [List.drop_zero, List.drop_zero] at hr
  exact ⟨r, Ev.bind (ifp (by omega) e) (done rfl), hr⟩
 ·exact ⟨false, Ev.bind (ifn (by omega) (done rfl)) (done rfl), ⟨fun hh => absurd hh Bool.false_ne_true, fun hh => absurd (by rw [hh]) h⟩⟩
def bt (L : List Bd) (j : Nat) : Bd := L.getD j []
theorem bt_lt {L : List Bd} {j : Nat} (h : j < L.length) : bt L j = L[j] := getD_lt h _
theorem rd_bt (L : List Bd) (j : Nat) : rdBd L (j : Int) = bt L j := rfl
theorem bt_drop {X L : List Bd} {a b : Nat} (h : X.drop a = L.drop a) (hab : a ≤ b) (hb : b < L.length) (hX : X.length = L.length) : bt X b = bt L b := by
 rw [bt_lt (by omega), bt_lt hb]
 have h1 : (X.drop a)[b - a]? = (L.drop a)[b - a]? := by rw [h]
 rw [List.getElem?_drop, List.getElem?_drop, show a + (b - a) = b by omega, List.getElem?_eq_getElem (by omega), List.getElem?_eq_getElem hb] at h1
 exact Option.some.inj h1
theorem bt_off {X : List Bd} {a q : Nat} (h : a + q < X.length) : bt (X.drop a) q = bt X (a + q) := by
 rw [bt_lt (by rw [List.length_drop]; omega), bt_lt h, List.getElem_drop]
open Classical in
/-- Of the first bodies of a list, each that is not the one ahead of it again. -/
noncomputable def db (L : List Bd) : Nat → List Bd
 | 0 => []
 | j + 1 => if 0 < j ∧ bt L j = bt L (j - 1) then db L j else db L j ++ [bt L j]
theorem db_same {L : List Bd} {j : Nat} (h0 : 0 < j) (h : bt L j = bt L (j - 1)) : db L (j + 1) = db L j := if_pos ⟨h0, h⟩
theorem db_new {L : List Bd} {j : Nat} (h : ¬ (0 < j ∧ bt L j = bt L (j - 1))) : db L (j + 1) = db L j ++ [bt L j] := if_neg h
theorem in_l1 (L : List Bd) (hn : L.length ≤ 1000000000000) (hs : ∀ x ∈ L, x.length ≤ 1000000) (k0 : Nat) (hk0 : 1 ≤ k0) (hk : k0 < L.length) : ∀ q, q ≤ L.length - k0 → 1 ≤ q → ∀ (X : List Bd) (i : Nat), X.length = L.length → i < k0 + q → X.take i = db L (k0 + q) → X.drop (k0 + q - 1) = L.drop (k0 + q - 1) → Ev (fun k => slices_CompactFunc_CountBodies_2.l1 k X (i : Int) k0 (L.length - k0) (q : Int)) (db L L.length) := by
 refine downTo (L.length - k0) ?_ ?_
 ·intro h1 X i hX hi ht hd
  have e : k0 + (L.length - k0) = L.length := by omega
  rw [e] at ht hi
  refine Ev.step (fun k => by simp only [slices_CompactFunc_CountBodies_2.l1]; exact rfl) (ifn (by omega) (ifp (by omega) (ifp (by omega) (done ?_))))
  rw [Int.toNat_natCast, ht]
 ·intro q hq ih h1 X i hX hi ht hd
  have hw : wrap64 ((q : Int) - 1) = ((q - 1 : Nat) : Int) := by rw [w64 (by omega) (by omega)]; omega
  have hq2 : wrap64 ((q : Int) + 1) = ((q + 1 : Nat) : Int) := wrapS (show q < L.length by omega) (by omega)
  have e1 : bt (X.drop k0) q = bt L (k0 + q) := by rw [bt_off (by omega)]; exact bt_drop hd (by omega) (by omega) hX
  have e2 : bt (X.drop k0) (q - 1) = bt L (k0 + q - 1) := by
   rw [bt_off (by omega), show k0 + (q - 1) = k0 + q - 1 by omega]
   exact bt_drop hd (by omega) (by omega) hX
  have hd' : X.drop (k0 + (q + 1) - 1) = L.drop (k0 + (q + 1) - 1) := by
   have h2 := congrArg (List.drop 1) hd
   rw [List.drop_drop, List.drop_drop, show k0 + q - 1 + 1 = k0 + (q + 1) - 1 by omega] at h2
   exact h2
  obtain ⟨r, er, hr⟩ := same_ev (bt L (k0 + q)) (bt L (k0 + q - 1)) (hs _ (by rw [bt_lt (show k0 + q < L.length by omega)]; exact List.getElem_mem _))
  refine Ev.step (fun k => by simp only [slices_CompactFunc_CountBodies_2.l1]; exact rfl) (ifp (by omega) (ifp (by omega) ?_))
  rw [hw]
  refine ifp (by omega) (ifp (by omega) ?_)
  rw [rd_bt, rd_bt, e1, e2, hq2]
  refine Ev.bind er ?_
  cases hrr : r with
  | true =>
   have hs2 := hr.1 hrr
   exact ifp (Eq.refl true) (ih (by omega) X i hX (by omega) (by rw [ht]; exact (db_same (by omega) hs2).symm) hd')
  | false =>
   have hs2 : ¬ bt L (k0 + q) = bt L (k0 + q - 1) := fun e => by have := hr.2 e; rw [hrr] at this; cases this
   refine ifn Bool.false_ne_true (ifp (by omega) (ifp (by omega) ?_))
   rw [wrapS (show i < L.length by omega) (by omega), Int.toNat_natCast]
   refine ih (by omega) (X.set i (bt L (k0 + q))) (i + 1) (by rw [List.length_set, hX]) (by omega) ?_ ?_
   ·rw [take_set_succ _ (by omega), ht]
    exact (db_new (fun hh => hs2 hh.2)).symm
   ·rw [List.drop_set_of_lt (by omega)]; exact hd'
theorem out_l0 (L : List Bd) (hn : L.length ≤ 1000000000000) (hs : ∀ x ∈ L, x.length ≤ 1000000) : ∀ j, j ≤ L.length → 1 ≤ j → db L j = L.take j → Ev (fun k => slices_CompactFunc_CountBodies_2.l0 k L (j : Int)) (db L L.length) := by
 refine downTo L.length ?_ ?_
 ·intro h1 hd
  rw [List.take_length] at hd
  exact Ev.step (fun k => by simp only [slices_CompactFunc_CountBodies_2.l0]; exact rfl) (ifn (by omega) (done hd.symm))
 ·intro j hj ih h1 hd
  have hw : wrap64 ((j : Int) - 1) = ((j - 1 : Nat) : Int) := by rw [w64 (by omega) (by omega)]; omega
  obtain ⟨r, er, hr⟩ := same_ev (bt L j) (bt L (j - 1)) (hs _ (by rw [bt_lt hj]; exact List.getElem_mem _))
  refine Ev.step (fun k => by simp only [slices_CompactFunc_CountBodies_2.l0]; exact rfl) (ifp (by omega) (ifp (by omega) ?_))
  rw [hw]
  refine ifp (by omega) (ifp (by omega) ?_)
  rw [rd_bt, rd_bt, wrapS hj (by omega), Int.toNat_natCast]
  refine Ev.bind er ?_
  cases hrr : r with
  | true =>
   have hs2 := hr.1 hrr
   exact ifp (Eq.refl true) (in_l1 L hn hs j h1 hj 1 (by omega) (Nat.le_refl _) L j rfl (by omega) (by rw [db_same (by omega) hs2, hd]) rfl)
  | false =>
   have hs2 : ¬ bt L j = bt L (j - 1) := fun e => by have := hr.2 e; rw [hrr] at this; cases this
   refine ifn Bool.false_ne_true (ih (by omega) ?_)
   rw [db_new (fun hh => hs2 hh.2), hd, take_succ hj, bt_lt hj]
theorem compactB_ev (L : List Bd) (hn : L.length ≤ 1000000000000) (hs : ∀ x ∈ L, x.length ≤ 1000000) : Ev (fun k => slices_CompactFunc_CountBodies_2.f k L) (db L L.length) := by
 have d1 : ∀ h : 0 < L.length, db L 1 = L.take 1 := by
  intro h
  rw [db_new (fun hh => absurd hh.1 (Nat.lt_irrefl 0)), bt_lt h, show (1 : Nat) = 0 + 1 from rfl, take_succ h]
  rfl
 unfold slices_CompactFunc_CountBodies_2.f
 by_cases h : (L.length : Int) < 2
 ·refine ifp h (done ?_)
  by_cases h0 : L.length = 0
  ·rw [h0, List.eq_nil_of_length_eq_zero h0]; rfl
  ·rw [show L.length = 1 by omega, d1 (by omega)]
   exact (List.take_of_length_le (by omega)).symm
 ·exact ifn h (out_l0 L hn hs 1 (by omega) (Nat.le_refl _) (d1 (by omega)))
theorem db_spec {L : List Bd} (hs : L.Pairwise fun x y => ltB y x = false) : ∀ j, j ≤ L.length → (db L j).Nodup ∧ (∀ x, x ∈ db L j ↔ x ∈ L.take j) ∧ ∀ x ∈ db L j, ∀ h : 0 < j, ltB (bt L (j - 1)) x = false := by
 intro j
 induction j with
 | zero => intro _; exact ⟨List.nodup_nil, fun x => by simp [db], fun x hx => by simp [db] at hx⟩
 | succ j ih =>
  intro hj
  have hj' : j < L.length := by omega
  obtain ⟨h1, h2, h3⟩ := ih (by omega)
  have hle : ∀ h : 0 < j, ltB (bt L j) (bt L (j - 1)) = false := by
   intro h
   rw [bt_lt (show j - 1 < L.length by omega), bt_lt hj']
   exact (List.pairwise_iff_getElem.1 hs) (j - 1) j (by omega) hj' (by omega)
  have hup : ∀ x ∈ db L j, ltB (bt L j) x = false := by
   intro x hx
   have h0 : 0 < j := by
    rcases Nat.eq_zero_or_pos j with e | e
    ·subst e; simp [db] at hx
    ·exact e
   exact lxB_ntrans _ _ _ (hle h0) (h3 x hx h0)
  have hself : ltB (bt L j) (bt L j) = false := lxB_irrefl _
  by_cases c : 0 < j ∧ bt L j = bt L (j - 1)
  ·rw [db_same c.1 c.2]
   refine ⟨h1, fun x => ?_, fun x hx _ => hup x hx⟩
   rw [h2, take_succ hj', List.mem_append, List.mem_singleton]
   refine ⟨Or.inl, fun h => h.elim id fun e => ?_⟩
   rw [e, ← bt_lt hj', c.2, bt_lt (show j - 1 < L.length by omega)]
   exact List.mem_take_iff_getElem.2 ⟨j - 1, by omega, rfl⟩
  ·rw [db_new c]
   refine ⟨?_, fun x => ?_, fun x hx _ => ?_⟩
   ·rw [List.nodup_append]
    refine ⟨h1, by simp, fun a ha b hb e => ?_⟩
    rw [List.mem_singleton] at hb
    subst hb; subst e
    have h0 : 0 < j := by
     rcases Nat.eq_zero_or_pos j with e | e
     ·subst e; simp [db] at ha
     ·exact e
    exact c ⟨h0, ltB_anti _ _ (hle h0) (h3 _ ha h0)⟩
   ·rw [List.mem_append, h2, take_succ hj', List.mem_append, List.mem_singleton, List.mem_singleton, bt_lt hj']
   ·rcases List.mem_append.1 hx with h | h
    ·exact hup x h
    ·rw [List.mem_singleton.1 h]; exact hself
/-- Sorted, and each left once. -/
noncomputable def once (L : List Bd) : List Bd := db (sortB L) (sortB L).length
theorem once_spec (L : List Bd) : (once L).Nodup ∧ ∀ x, x ∈ once L ↔ x ∈ L := by
 obtain ⟨h1, h2, _⟩ := db_spec (sortB_sorted L) _ (Nat.le_refl _)
 refine ⟨h1, fun x => ?_⟩
 show x ∈ db (sortB L) (sortB L).length ↔ x ∈ L
 rw [h2, List.take_length, (sortB_perm L).mem_iff]
theorem once_ev (L : List Bd) (h0 : 0 < L.length) (hn : L.length ≤ 1000000000000) (hs : ∀ x ∈ L, x.length ≤ 1000000) : slices_SortFunc_CountBodies_1.f L = some (sortB L) ∧ Ev (fun k => slices_CompactFunc_CountBodies_2.f k (sortB L)) (once L) := by
 refine ⟨if_pos ⟨h0, by omega⟩, compactB_ev (sortB L) ?_ (fun x hx => hs x ((sortB_perm L).mem_iff.1 hx))⟩
 rw [(sortB_perm L).length_eq]; exact hn
end Go.Proofs.YtckhmeadflafaaaGreat.PureCompactB
