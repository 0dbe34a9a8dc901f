/- Whether cells hang together, told by what can be reached from the first one, and that a shift changes nothing. No conditions beyond those of the lemmas' own hypotheses. -/
import Derived.Test.YtckhmeadflafaaaGreatCells
import Derived.Test.YtckhmeadflafaaaGreatPut
namespace Go.Proofs.YtckhmeadflafaaaGreat.PureHang
open Go.RowKit YtckhmeadflafaaaGreat.XFc YtckhmeadflafaaaGreat.Plain YtckhmeadflafaaaGreat.PureCells YtckhmeadflafaaaGreat.PureBody YtckhmeadflafaaaGreat.PurePut YtckhmeadflafaaaGreatW.PrintWords YtckhmeadflafaaaGreatW.PrintLast YtckhmeadflafaaaGreatW.PrintMore
set_option linter.unusedVariables false
def at_ (l : List Cl) (j : Nat) : Cl := rd_T37 l (j : Int)
theorem at_lt {l : List Cl} {j : Nat} (h : j < l.length) : at_ l j = l[j] := rdC h
inductive Rc (l : List Cl) : Nat → Prop
 | base : Rc l 0
 | step {i j : Nat} : Rc l i → j < l.length → nr (at_ l j) (at_ l i) = true → Rc l j
def sn (s : List Bool) (j : Nat) : Bool := s.getD j false
theorem sn_lt {s : List Bool} {j : Nat} (h : sn s j = true) : j < s.length := by
 rcases Nat.lt_or_ge j s.length with hl | hl
 ·exact hl
 ·unfold sn at h; rw [List.getD_eq_getElem?_getD, List.getElem?_eq_none hl] at h; cases h
theorem sn_get {s : List Bool} {j : Nat} (h : j < s.length) : sn s j = s[j] := getD_lt h _
theorem sn_set {s : List Bool} {i : Nat} (hi : i < s.length) (j : Nat) : sn (s.set i true) j = true ↔ i = j ∨ sn s j = true := by
 unfold sn
 rw [List.getD_eq_getElem?_getD, List.getD_eq_getElem?_getD, List.getElem?_set]
 by_cases e : i = j
 ·subst e; simp [hi]
 ·simp [e]
structure Iv (l : List Cl) (seen : List Bool) (list : List Int) (n : Nat) : Prop where
 h1 : seen.length = l.length
 h2 : list.length = seen.count true
 h3 : n ≤ list.length
 h5 : ∀ x ∈ list, 0 ≤ x ∧ x < (l.length : Int)
 rc : ∀ j, sn seen j = true → Rc l j
 mem : ∀ j, sn seen j = true → (j : Int) ∈ list
 lst : ∀ j : Nat, (j : Int) ∈ list → sn seen j = true
 cl : ∀ m, m < n → ∀ i : Nat, rd list (m : Int) = (i : Int) → ∀ j, j < l.length → nr (at_ l j) (at_ l i) = true → sn seen j = true
 z : sn seen 0 = true
theorem Iv.sound {l : List Cl} {seen : List Bool} {list : List Int} {n : Nat} (v : Iv l seen list n) (he : list.length = n) : (((list.length : Int) == (l.length : Int)) = true ↔ ∀ j, j < l.length → Rc l j) := by
 constructor
 ·intro h j hj
  have h : (list.length : Int) = (l.length : Int) := eq_of_beq h
  have hc : seen.count true = seen.length := by rw [← v.h2, v.h1]; omega
  have := List.count_eq_length.1 hc
  apply v.rc
  have hj2 : j < seen.length := by rw [v.h1]; exact hj
  rw [sn_get hj2]
  exact (this _ (List.getElem_mem hj2)).symm
 ·intro h
  have key : ∀ j, Rc l j → sn seen j = true := by
   intro j hj
   induction hj with
   | base => exact v.z
   | step hi hj hn ih =>
    obtain ⟨m, hm, hme⟩ := List.getElem_of_mem (v.mem _ ih)
    exact v.cl m (by omega) _ (by rw [rd_lt hm, hme]) _ hj hn
  have hc : seen.count true = seen.length := by
   rw [List.count_eq_length]
   intro b hb
   obtain ⟨j, hj, rfl⟩ := List.getElem_of_mem hb
   rw [← sn_get hj]
   exact (key j (h j (by rw [← v.h1]; exact hj))).symm
  have : (list.length : Int) = (l.length : Int) := by rw [v.h2, hc, v.h1]
  rw [this]; exact beq_self_eq_true _
theorem inner (l : List Cl) (hn : l.length ≤ 1048576) (hs : ∀ x ∈ l, Small x) (n : Nat) (hnl : n < l.length) (Q : Prop)
  (ih : ∀ (seen : List Bool) (list : List Int), Iv l seen list (n + 1) → ∃ r, Ev (fun k => spec_l8Hangs.l0 k l seen list ((n + 1 : Nat) : Int)) r ∧ (r = true ↔ Q))
  (m : Nat) (hm : m < l.length) :
  ∀ i, i ≤ l.length → ∀ (seen : List Bool) (list : List Int), Iv l seen list n → n + 1 ≤ list.length → rd list (n : Int) = (m : Int) → (∀ j, j < i → j < l.length → nr (at_ l j) (at_ l m) = true → sn seen j = true) → ∃ r, Ev (fun k => spec_l8Hangs.l1 k l seen list (n : Int) (i : Int)) r ∧ (r = true ↔ Q) := by
 refine downTo l.length ?_ ?_
 ·intro seen list v h3 h4 h6
  obtain ⟨r, e1, e2⟩ := ih seen list ⟨v.h1, v.h2, h3, v.h5, v.rc, v.mem, v.lst, by
   intro m' hm' i hi j hj hnr
   by_cases e : m' = n
   ·subst e
    rw [h4] at hi
    have : m = i := by omega
    subst this
    exact h6 j hj hj hnr
   ·exact v.cl m' (by omega) i hi j hj hnr, v.z⟩
  refine ⟨r, Ev.step (fun k => by simp only [spec_l8Hangs.l1]; exact rfl) (ifn (by omega) ?_), e2⟩
  rw [wrapS hnl (by omega)]; exact e1
 ·intro i hi ih2 seen list v h3 h4 h6
  have hi0 : 0 ≤ (i : Int) := by omega
  have hil : (i : Int) < (l.length : Int) := by omega
  have hsi : i < seen.length := by rw [v.h1]; exact hi
  have his : (i : Int) < (seen.length : Int) := by omega
  have hw : wrap64 ((i : Int) + 1) = ((i + 1 : Nat) : Int) := wrapS hi (by omega)
  have sb : rdOf false seen (i : Int) = sn seen i := by rw [rdB hsi, sn_get hsi]
  cases hse : sn seen i with
  | true =>
   obtain ⟨r, e1, e2⟩ := ih2 seen list v h3 h4 (by
    intro j hj hjl hnr
    by_cases e : j = i
    ·subst e; exact hse
    ·exact h6 j (by omega) hjl hnr)
   refine ⟨r, Ev.step (fun k => by simp only [spec_l8Hangs.l1]; exact rfl) (ifp hil (ifp hi0 (ifp his (ifp (by rw [sb]; exact hse) ?_)))), e2⟩
   rw [hw]; exact e1
  | false =>
   have hcount : list.length ≤ l.length := by rw [v.h2, ← v.h1]; exact List.count_le_length
   have hn0 : 0 ≤ (n : Int) := by omega
   have hnl2 : (n : Int) < (list.length : Int) := by omega
   have hm0 : 0 ≤ (m : Int) := by omega
   have hml : (m : Int) < (l.length : Int) := by omega
   have nse : ¬ (rdOf false seen (i : Int) = true) := by rw [sb, hse]; exact Bool.false_ne_true
   have hne := near_eq (hs l[i] (List.getElem_mem hi)) (hs l[m] (List.getElem_mem hm))
   have hspec : ∀ r, Ev (fun k => if nr l[i] l[m] = true then (if list.length < 17592186044416 then (spec_l8Hangs.l1 k l (seen.set (i : Int).toNat true) (list ++ [(i : Int)]) (n : Int) (wrap64 ((i : Int) + 1))) else none) else (spec_l8Hangs.l1 k l seen list (n : Int) (wrap64 ((i : Int) + 1)))) r → Ev (fun k => spec_l8Hangs.l1 k l seen list (n : Int) (i : Int)) r := by
    intro r h
    refine Ev.step (fun k => by simp only [spec_l8Hangs.l1]; exact rfl) (ifp hil (ifp hi0 (ifp his (ifn nse (ifp hn0 (ifp hnl2 ?_))))))
    rw [h4]
    refine ifp hm0 (ifp hml ?_)
    rw [rdC hi, rdC hm]
    exact somb hne h
   by_cases hb : nr l[i] l[m] = true
   ·have hnm : list[n]'(by omega) = (m : Int) := by rw [← h4, rd_lt (by omega)]
    have hmem : (m : Int) ∈ list := by rw [← hnm]; exact List.getElem_mem _
    have hrcm : Rc l m := v.rc m (v.lst m hmem)
    have hse2 : seen[i] = false := by rw [← sn_get hsi]; exact hse
    have grow : ∀ j, sn seen j = true → sn (seen.set i true) j = true := fun j h => (sn_set hsi j).2 (Or.inr h)
    have rdap : ∀ m', m' < n + 1 → rd (list ++ [(i : Int)]) (m' : Int) = rd list (m' : Int) := by
     intro m' hm'
     unfold rd; rw [Int.toNat_natCast, getD_lt (by rw [List.length_append]; omega), getD_lt (by omega), List.getElem_append_left (by omega)]
    obtain ⟨r, e1, e2⟩ := ih2 (seen.set i true) (list ++ [(i : Int)]) ⟨by rw [List.length_set]; exact v.h1, by rw [count_set hsi hse2, ← v.h2, List.length_append]; rfl, by rw [List.length_append]; omega, by
     intro x hx
     rcases List.mem_append.1 hx with hx | hx
     ·exact v.h5 x hx
     ·rw [List.mem_singleton] at hx; omega, by
     intro j hj
     rcases (sn_set hsi j).1 hj with e | e
     ·subst e; exact Rc.step hrcm hi (by rw [at_lt hi, at_lt hm]; exact hb)
     ·exact v.rc j e, by
     intro j hj
     rcases (sn_set hsi j).1 hj with e | e
     ·subst e; simp
     ·exact List.mem_append_left _ (v.mem j e), by
     intro j hj
     rcases List.mem_append.1 hj with hx | hx
     ·exact grow j (v.lst j hx)
     ·rw [List.mem_singleton] at hx
      exact (sn_set hsi j).2 (Or.inl (by omega)), by
     intro m' hm' i' hi' j hj hnr
     rw [rdap m' (by omega)] at hi'
     exact grow j (v.cl m' hm' i' hi' j hj hnr), grow 0 v.z⟩ (by rw [List.length_append]; omega) (by rw [rdap n (by omega)]; exact h4) (by
     intro j hj hjl hnr
     by_cases e : j = i
     ·subst e; exact (sn_set hsi j).2 (Or.inl rfl)
     ·exact grow j (h6 j (by omega) hjl hnr))
    refine ⟨r, hspec r (ifp hb (ifp (by omega) ?_)), e2⟩
    rw [hw, Int.toNat_natCast]; exact e1
   ·obtain ⟨r, e1, e2⟩ := ih2 seen list v h3 h4 (by
     intro j hj hjl hnr
     by_cases e : j = i
     ·subst e; rw [at_lt hi, at_lt hm] at hnr; exact absurd hnr hb
     ·exact h6 j (by omega) hjl hnr)
    refine ⟨r, hspec r (ifn hb ?_), e2⟩
    rw [hw]; exact e1
theorem outer (l : List Cl) (hn : l.length ≤ 1048576) (hs : ∀ x ∈ l, Small x) : ∀ n, n ≤ l.length → ∀ (seen : List Bool) (list : List Int), Iv l seen list n → ∃ r, Ev (fun k => spec_l8Hangs.l0 k l seen list (n : Int)) r ∧ (r = true ↔ ∀ j, j < l.length → Rc l j) := by
 have stop : ∀ (n : Nat) (seen : List Bool) (list : List Int), Iv l seen list n → list.length = n → ∃ r, Ev (fun k => spec_l8Hangs.l0 k l seen list (n : Int)) r ∧ (r = true ↔ ∀ j, j < l.length → Rc l j) := by
  intro n seen list v h
  exact ⟨((list.length : Int) == (l.length : Int)), Ev.step (fun k => by simp only [spec_l8Hangs.l0]; exact rfl) (ifn (by omega) (done rfl)), v.sound h⟩
 refine downTo l.length ?_ ?_
 ·intro seen list v
  have hcount : list.length ≤ l.length := by rw [v.h2, ← v.h1]; exact List.count_le_length
  have := v.h3
  exact stop _ seen list v (by omega)
 ·intro n hnl ih seen list v
  have h3 := v.h3
  by_cases he : list.length = n
  ·exact stop n seen list v he
  ·have hlt : n < list.length := by omega
   have hx := v.h5 list[n] (List.getElem_mem hlt)
   have hm : (list[n]).toNat < l.length := by omega
   have hmm : (((list[n]).toNat : Nat) : Int) = list[n] := by omega
   obtain ⟨r, e1, e2⟩ := inner l hn hs n hnl _ ih (list[n]).toNat hm 0 (Nat.zero_le _) seen list v (by omega) (by rw [rd_lt hlt, hmm]) (fun j hj => absurd hj (by omega))
   exact ⟨r, Ev.step (fun k => by simp only [spec_l8Hangs.l0]; exact rfl) (ifp (by omega) e1), e2⟩
theorem hangs_sem (l : List Cl) (h0 : 0 < l.length) (hn : l.length ≤ 1048576) (hs : ∀ x ∈ l, Small x) : ∃ r, Ev (fun k => spec_l8Hangs.f k l) r ∧ (r = true ↔ ∀ j, j < l.length → Rc l j) := by
 have hlr : 0 < (List.replicate l.length false).length := by simpa using h0
 have s0 : ∀ j, sn ((List.replicate l.length false).set 0 true) j = true ↔ j = 0 := by
  intro j
  rw [sn_set hlr]
  constructor
  ·rintro (h | h)
   ·exact h.symm
   ·have hj := sn_lt h
    rw [sn_get hj, List.getElem_replicate] at h
    cases h
  ·intro h; exact Or.inl h.symm
 obtain ⟨r, e1, e2⟩ := outer l hn hs 0 (Nat.zero_le _) ((List.replicate l.length false).set 0 true) [0] ⟨by simp, by rw [count_set hlr (by simp)]; simp [List.count_replicate], Nat.zero_le _, by intro x hx; rw [List.mem_singleton] at hx; omega, by
  intro j hj; rw [(s0 j).1 hj]; exact Rc.base, by
  intro j hj; rw [(s0 j).1 hj]; simp, by
  intro j hj; rw [List.mem_singleton] at hj; exact (s0 j).2 (by omega), fun m hm => absurd hm (by omega), (s0 0).2 rfl⟩
 refine ⟨r, ?_, e2⟩
 unfold spec_l8Hangs.f
 exact ifp (by omega) (ifp (by omega) (somb rfl (ifp (by simpa using h0) e1)))
theorem nr_sh (a b : Int) (x y : Cl) : nr (sh a b x) (sh a b y) = nr x y := by
 unfold nr sh
 rw [show x.f0 - a - (y.f0 - a) = x.f0 - y.f0 from by omega, show x.f1 - b - (y.f1 - b) = x.f1 - y.f1 from by omega]
theorem at_sh (a b : Int) {l : List Cl} {j : Nat} (h : j < l.length) : at_ (l.map (sh a b)) j = sh a b (at_ l j) := by
 rw [at_lt (by simpa using h), at_lt h, List.getElem_map]
theorem Rc.lt {l : List Cl} (h0 : 0 < l.length) {j : Nat} (h : Rc l j) : j < l.length := by
 cases h with
 | base => exact h0
 | step _ hj _ => exact hj
theorem Rc_sh (a b : Int) {l : List Cl} (h0 : 0 < l.length) (j : Nat) : Rc (l.map (sh a b)) j ↔ Rc l j := by
 constructor
 ·intro h
  induction h with
  | base => exact Rc.base
  | step hi hj hn ih =>
   have hj2 := hj
   rw [List.length_map] at hj2
   have hi2 := Rc.lt (l := l.map (sh a b)) (by simpa using h0) hi
   rw [List.length_map] at hi2
   rw [at_sh a b hj2, at_sh a b hi2, nr_sh] at hn
   exact Rc.step ih hj2 hn
 ·intro h
  induction h with
  | base => exact Rc.base
  | step hi hj hn ih => exact Rc.step ih (by simpa using hj) (by rw [at_sh a b hj, at_sh a b (Rc.lt h0 hi), nr_sh]; exact hn)
/-- A shift changes nothing. -/
theorem hangs_shift {l : List Cl} (a b : Int) (h0 : 0 < l.length) (hn : l.length ≤ 1048576) (hs : ∀ x ∈ l, Small x) (hs2 : ∀ x ∈ l.map (sh a b), Small x) {r s : Bool} (h : Ev (fun k => spec_l8Hangs.f k l) r) (k : Ev (fun k => spec_l8Hangs.f k (l.map (sh a b))) s) : r = s := by
 obtain ⟨r', e1, e2⟩ := hangs_sem l h0 hn hs
 obtain ⟨s', f1, f2⟩ := hangs_sem (l.map (sh a b)) (by simpa using h0) (by simpa using hn) hs2
 rw [ev_fun h e1, ev_fun k f1]
 have : (r' = true) ↔ (s' = true) := by
  rw [e2, f2, List.length_map]
  exact ⟨fun h j hj => (Rc_sh a b h0 j).2 (h j hj), fun h j hj => (Rc_sh a b h0 j).1 (h j hj)⟩
 cases r' <;> cases s' <;> simp_all
end Go.Proofs.YtckhmeadflafaaaGreat.PureHang
