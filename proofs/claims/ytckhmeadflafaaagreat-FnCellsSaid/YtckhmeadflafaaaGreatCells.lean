/- Cells, whether they hang together, and the copies that the law makes. No conditions beyond those of the lemmas' own hypotheses. -/
import Derived.Test.YtckhmeadflafaaaGreatPlain
import Derived.Test.YtckhmeadflafaaaGreatXFcx4
import Derived.Test.YtckhmeadflafaaaGreatXFcx3
namespace Go.Proofs.YtckhmeadflafaaaGreat.PureCells
open Go.RowKit YtckhmeadflafaaaGreat.XFc YtckhmeadflafaaaGreat.Plain YtckhmeadflafaaaGreatW.PrintWords YtckhmeadflafaaaGreatW.PrintLast YtckhmeadflafaaaGreatW.PrintMore
set_option linter.unusedVariables false

abbrev Cl := S37
theorem rdC {l : List Cl} {i : Nat} (h : i < l.length) : rd_T37 l (i : Int) = l[i] := by
 unfold rd_T37; rw [Int.toNat_natCast]; exact getD_lt h _
theorem rdB {l : List Bool} {i : Nat} (h : i < l.length) : rdOf false l (i : Int) = l[i] := by
 unfold rdOf; rw [Int.toNat_natCast]; exact getD_lt h _

/-! ### squares -/
theorem sq_nonneg (v : Int) : 0 ≤ v * v := by
 rcases Int.le_total 0 v with h | h
 ·exact Int.mul_nonneg h h
 ·have := Int.mul_nonneg (show 0 ≤ -v by omega) (show 0 ≤ -v by omega)
  rwa [Int.neg_mul_neg] at this
theorem sq_le {u B : Int} (h0 : -B ≤ u) (h1 : u ≤ B) : u * u ≤ B * B := by
 rcases Int.le_total 0 u with h | h
 ·exact Int.mul_le_mul h1 h1 h (by omega)
 ·have := Int.mul_le_mul (show -u ≤ B by omega) (show -u ≤ B by omega) (show 0 ≤ -u by omega) (show 0 ≤ B by omega)
  rwa [Int.neg_mul_neg] at this
theorem sq_ge {u : Int} (h : 2 ≤ u ∨ u ≤ -2) : 4 ≤ u * u := by
 rcases h with h | h
 ·have := Int.mul_le_mul h h (by omega) (show 0 ≤ u by omega); omega
 ·have := Int.mul_le_mul (show 2 ≤ -u by omega) (show 2 ≤ -u by omega) (by omega) (show 0 ≤ -u by omega)
  rw [Int.neg_mul_neg] at this; omega
/-- The absolute value, as the reference takes it. -/
def ab (u : Int) : Int := if -u > u then -u else u
theorem sq_one (u v : Int) : u * u + v * v = 1 ↔ ab u + ab v = 1 := by
 by_cases hu : 2 ≤ u ∨ u ≤ -2
 ·have h1 := sq_ge hu
  have h2 := sq_nonneg v
  constructor
  ·intro h; omega
  ·intro h
   exfalso
   unfold ab at h
   split at h <;> split at h <;> omega
 ·by_cases hv : 2 ≤ v ∨ v ≤ -2
  ·have h1 := sq_ge hv
   have h2 := sq_nonneg u
   constructor
   ·intro h; omega
   ·intro h
    exfalso
    unfold ab at h
    split at h <;> split at h <;> omega
  ·have e1 : u = -1 ∨ u = 0 ∨ u = 1 := by omega
   have e2 : v = -1 ∨ v = 0 ∨ v = 1 := by omega
   rcases e1 with rfl | rfl | rfl <;> rcases e2 with rfl | rfl | rfl <;> decide

/-! ### neighbors -/
def Small (x : Cl) : Prop := (-1000000 ≤ x.f0 ∧ x.f0 ≤ 1000000) ∧ -1000000 ≤ x.f1 ∧ x.f1 ≤ 1000000
def nr (x y : Cl) : Bool := decide (ab (x.f0 - y.f0) + ab (x.f1 - y.f1) = 1)
theorem near_eq {x y : Cl} (hx : Small x) (hy : Small y) : spec_l8Near.f x.f0 x.f1 y.f0 y.f1 = some (nr x y) := by
 obtain ⟨⟨a1, a2⟩, a3, a4⟩ := hx
 obtain ⟨⟨b1, b2⟩, b3, b4⟩ := hy
 unfold spec_l8Near.f spec_l1Most.f nr ab
 rw [w64 (x := x.f0 - y.f0) (by omega) (by omega), w64 (x := y.f0 - x.f0) (by omega) (by omega), w64 (x := x.f1 - y.f1) (by omega) (by omega), w64 (x := y.f1 - x.f1) (by omega) (by omega)]
 have key : ∀ p q : Int, (-4000000 ≤ p ∧ p ≤ 4000000) → (-4000000 ≤ q ∧ q ≤ 4000000) → (wrap64 (p + q) == 1) = decide (p + q = 1) := by
  intro p q hp hq
  rw [w64 (by omega) (by omega)]; rfl
 by_cases h1 : x.f0 - y.f0 > y.f0 - x.f0 <;> by_cases h2 : x.f1 - y.f1 > y.f1 - x.f1
 ·rw [if_pos h1, if_pos h2, if_neg (by omega), if_neg (by omega)]
  simp only [Option.bind_some]
  rw [key _ _ (by omega) (by omega)]
 ·rw [if_pos h1, if_neg h2, if_neg (by omega)]
  simp only [Option.bind_some]
  rw [key _ _ (by omega) (by omega)]
  by_cases h3 : -(x.f1 - y.f1) > x.f1 - y.f1
  ·rw [if_pos h3]; congr 1; rw [show y.f1 - x.f1 = -(x.f1 - y.f1) from by omega]
  ·rw [if_neg h3]; congr 1; rw [show y.f1 - x.f1 = x.f1 - y.f1 from by omega]
 ·rw [if_neg h1, if_pos h2, if_neg (c := -(x.f1 - y.f1) > x.f1 - y.f1) (by omega)]
  simp only [Option.bind_some]
  rw [key _ _ (by omega) (by omega)]
  by_cases h3 : -(x.f0 - y.f0) > x.f0 - y.f0
  ·rw [if_pos h3]; congr 1; rw [show y.f0 - x.f0 = -(x.f0 - y.f0) from by omega]
  ·rw [if_neg h3]; congr 1; rw [show y.f0 - x.f0 = x.f0 - y.f0 from by omega]
 ·rw [if_neg h1, if_neg h2]
  simp only [Option.bind_some]
  rw [key _ _ (by omega) (by omega)]
  have e0 : (if -(x.f0 - y.f0) > x.f0 - y.f0 then -(x.f0 - y.f0) else x.f0 - y.f0) = y.f0 - x.f0 := by split <;> omega
  have e1 : (if -(x.f1 - y.f1) > x.f1 - y.f1 then -(x.f1 - y.f1) else x.f1 - y.f1) = y.f1 - x.f1 := by split <;> omega
  rw [e0, e1]
theorem sqs_eq {x y : Cl} (hx : Small x) (hy : Small y) : (wrap64 ((wrap64 ((wrap64 (y.f0 - x.f0)) * (wrap64 (y.f0 - x.f0)))) + (wrap64 ((wrap64 (y.f1 - x.f1)) * (wrap64 (y.f1 - x.f1))))) = 1) ↔ nr x y = true := by
 obtain ⟨⟨a1, a2⟩, a3, a4⟩ := hx
 obtain ⟨⟨b1, b2⟩, b3, b4⟩ := hy
 rw [w64 (x := y.f0 - x.f0) (by omega) (by omega), w64 (x := y.f1 - x.f1) (by omega) (by omega)]
 have s0 := sq_nonneg (y.f0 - x.f0)
 have s1 := sq_nonneg (y.f1 - x.f1)
 have t0 := sq_le (u := y.f0 - x.f0) (B := 2000000) (by omega) (by omega)
 have t1 := sq_le (u := y.f1 - x.f1) (B := 2000000) (by omega) (by omega)
 have key := sq_one (y.f0 - x.f0) (y.f1 - x.f1)
 generalize (y.f0 - x.f0) * (y.f0 - x.f0) = p at *
 generalize (y.f1 - x.f1) * (y.f1 - x.f1) = q at *
 rw [w64 (x := p) (by omega) (by omega), w64 (x := q) (by omega) (by omega), w64 (by omega) (by omega), key]
 unfold nr ab
 rw [decide_eq_true_eq]
 constructor
 ·intro h; split at h <;> split at h <;> split <;> split <;> omega
 ·intro h; split at h <;> split at h <;> split <;> split <;> omega

/-! ### hanging together: the two searches go on alike -/
theorem count_set {l : List Bool} {i : Nat} (h : i < l.length) (hf : l[i] = false) : (l.set i true).count true = l.count true + 1 := by
 rw [List.count_set h, hf]; simp
theorem hang_inner (l : List Cl) (hn : l.length ≤ 1048576) (hs : ∀ x ∈ l, Small x) (n : Nat) (hnl : n < l.length)
  (ih : ∀ (seen : List Bool) (list : List Int), seen.length = l.length → list.length = seen.count true → n + 1 ≤ list.length → (∀ x ∈ list, 0 ≤ x ∧ x < (l.length : Int)) → ∃ r, Ev (fun k => spec_l8Hangs.l0 k l seen list ((n + 1 : Nat) : Int)) r ∧ Ev (fun k => impl_hangs.l0 k l seen (list.drop (n + 1)) ((n + 1 : Nat) : Int)) r)
  (m : Nat) (hm : m < l.length) :
  ∀ i, i ≤ l.length → ∀ (seen : List Bool) (list : List Int), seen.length = l.length → list.length = seen.count true → n + 1 ≤ list.length → rd list (n : Int) = (m : Int) → (∀ x ∈ list, 0 ≤ x ∧ x < (l.length : Int)) → ∃ r, Ev (fun k => spec_l8Hangs.l1 k l seen list (n : Int) (i : Int)) r ∧ Ev (fun k => impl_hangs.l1 k l seen (list.drop (n + 1)) ((n + 1 : Nat) : Int) l (l.length : Int) (i : Int) l[m].f0 l[m].f1) r := by
 refine downTo l.length ?_ ?_
 ·intro seen list h1 h2 h3 h4 h5
  obtain ⟨r, e1, e2⟩ := ih seen list h1 h2 h3 h5
  refine ⟨r, Ev.step (fun k => by simp only [spec_l8Hangs.l1]; exact rfl) (ifn (by omega) ?_), Ev.step (fun k => by simp only [impl_hangs.l1]; exact rfl) (ifn (by omega) e2)⟩
  rw [wrapS hnl (by omega)]; exact e1
 ·intro i hi ih2 seen list h1 h2 h3 h4 h5
  have hi0 : 0 ≤ (i : Int) := by omega
  have hil : (i : Int) < (l.length : Int) := by omega
  have his : (i : Int) < (seen.length : Int) := by omega
  have hsi : i < seen.length := by omega
  have hw : wrap64 ((i : Int) + 1) = ((i + 1 : Nat) : Int) := wrapS hi (by omega)
  cases hse : seen[i] with
  | true =>
   obtain ⟨r, e1, e2⟩ := ih2 seen list h1 h2 h3 h4 h5
   refine ⟨r, Ev.step (fun k => by simp only [spec_l8Hangs.l1]; exact rfl) (ifp hil (ifp hi0 (ifp his (ifp (by rw [rdB hsi]; exact hse) ?_)))), Ev.step (fun k => by simp only [impl_hangs.l1]; exact rfl) (ifp hil (ifp hi0 (ifp hil (ifp his (ifp (by rw [rdB hsi]; exact hse) ?_)))))⟩
   ·rw [hw]; exact e1
   ·rw [hw]; exact e2
  | false =>
   have hcount : list.length ≤ l.length := by rw [h2, ← h1]; exact List.count_le_length
   have hn0 : 0 ≤ (n : Int) := by omega
   have hnl2 : (n : Int) < (list.length : Int) := by omega
   have hm0 : 0 ≤ (m : Int) := by omega
   have hml : (m : Int) < (l.length : Int) := by omega
   have nse : ¬ (rdOf false seen (i : Int) = true) := by rw [rdB hsi, hse]; exact Bool.false_ne_true
   have hne := near_eq (hs l[i] (List.getElem_mem hi)) (hs l[m] (List.getElem_mem hm))
   have hsq := sqs_eq (hs l[i] (List.getElem_mem hi)) (hs l[m] (List.getElem_mem hm))
   have hspec : ∀ r, Ev (fun k => if nr l[i] l[m] = true then (if list.length < 17592186044416 then (spec_l8Hangs.l1 k l (seen.set (i : Int).toNat true) (list ++ [(i : Int)]) (n : Int) (wrap64 ((i : Int) + 1))) else none) else (spec_l8Hangs.l1 k l seen list (n : Int) (wrap64 ((i : Int) + 1)))) r → Ev (fun k => spec_l8Hangs.l1 k l seen list (n : Int) (i : Int)) r := by
    intro r h
    refine Ev.step (fun k => by simp only [spec_l8Hangs.l1]; exact rfl) (ifp hil (ifp hi0 (ifp his (ifn nse (ifp hn0 (ifp hnl2 ?_))))))
    rw [h4]
    refine ifp hm0 (ifp hml ?_)
    rw [rdC hi, rdC hm]
    exact somb hne h
   have himpl : ∀ r, Ev (fun k => if nr l[i] l[m] = true then (if (list.drop (n + 1)).length < 17592186044416 then (impl_hangs.l1 k l (seen.set (i : Int).toNat true) (list.drop (n + 1) ++ [(i : Int)]) ((n + 1 : Nat) : Int) l (l.length : Int) (wrap64 ((i : Int) + 1)) l[m].f0 l[m].f1) else none) else (impl_hangs.l1 k l seen (list.drop (n + 1)) ((n + 1 : Nat) : Int) l (l.length : Int) (wrap64 ((i : Int) + 1)) l[m].f0 l[m].f1)) r → Ev (fun k => impl_hangs.l1 k l seen (list.drop (n + 1)) ((n + 1 : Nat) : Int) l (l.length : Int) (i : Int) l[m].f0 l[m].f1) r := by
    intro r h
    refine Ev.step (fun k => by simp only [impl_hangs.l1]; exact rfl) (ifp hil (ifp hi0 (ifp hil (ifp his (ifn nse ?_)))))
    rw [rdC hi]
    refine Ev.congr ?_ h
    intro k
    by_cases hb : nr l[i] l[m] = true
    ·rw [if_pos (hsq.2 hb), if_pos hb]
    ·rw [if_neg (fun e => hb (hsq.1 e)), if_neg hb]
   by_cases hb : nr l[i] l[m] = true
   ·obtain ⟨r, e1, e2⟩ := ih2 (seen.set i true) (list ++ [(i : Int)]) (by rw [List.length_set]; exact h1) (by rw [count_set hsi hse, ← h2, List.length_append]; rfl) (by rw [List.length_append]; omega) (by
     rw [← h4]; unfold rd; rw [Int.toNat_natCast, getD_lt (by rw [List.length_append]; omega), getD_lt (by omega), List.getElem_append_left (by omega)]) (by
     intro x hx
     rcases List.mem_append.1 hx with hx | hx
     ·exact h5 x hx
     ·rw [List.mem_singleton] at hx; omega)
    rw [List.drop_append_of_le_length (by omega)] at e2
    refine ⟨r, hspec r (ifp hb (ifp (by omega) ?_)), himpl r (ifp hb (ifp (by rw [List.length_drop]; omega) ?_))⟩
    ·rw [hw, Int.toNat_natCast]; exact e1
    ·rw [hw, Int.toNat_natCast]; exact e2
   ·obtain ⟨r, e1, e2⟩ := ih2 seen list h1 h2 h3 h4 h5
    refine ⟨r, hspec r (ifn hb ?_), himpl r (ifn hb ?_)⟩
    ·rw [hw]; exact e1
    ·rw [hw]; exact e2
theorem hang_outer (l : List Cl) (hn : l.length ≤ 1048576) (hs : ∀ x ∈ l, Small x) : ∀ n, n ≤ l.length → ∀ (seen : List Bool) (list : List Int), seen.length = l.length → list.length = seen.count true → n ≤ list.length → (∀ x ∈ list, 0 ≤ x ∧ x < (l.length : Int)) → ∃ r, Ev (fun k => spec_l8Hangs.l0 k l seen list (n : Int)) r ∧ Ev (fun k => impl_hangs.l0 k l seen (list.drop n) (n : Int)) r := by
 have stop : ∀ (n : Nat) (seen : List Bool) (list : List Int), list.length = n → ∃ r, Ev (fun k => spec_l8Hangs.l0 k l seen list (n : Int)) r ∧ Ev (fun k => impl_hangs.l0 k l seen (list.drop n) (n : Int)) r := by
  intro n seen list h
  refine ⟨((n : Int) == (l.length : Int)), Ev.step (fun k => by simp only [spec_l8Hangs.l0]; exact rfl) (ifn (by omega) (done (by rw [h]))), Ev.step (fun k => by simp only [impl_hangs.l0]; exact rfl) (ifn (by rw [List.length_drop]; omega) (done rfl))⟩
 refine downTo l.length ?_ ?_
 ·intro seen list h1 h2 h3 h5
  have hcount : list.length ≤ l.length := by rw [h2, ← h1]; exact List.count_le_length
  exact stop _ seen list (by omega)
 ·intro n hnl ih seen list h1 h2 h3 h5
  by_cases he : list.length = n
  ·exact stop n seen list he
  ·have hlt : n < list.length := by omega
   have hx := h5 list[n] (List.getElem_mem hlt)
   have hm : (list[n]).toNat < l.length := by omega
   have hmm : (((list[n]).toNat : Nat) : Int) = list[n] := by omega
   obtain ⟨r, e1, e2⟩ := hang_inner l hn hs n hnl ih (list[n]).toNat hm 0 (Nat.zero_le _) seen list h1 h2 (by omega) (by rw [rd_lt hlt, hmm]) h5
   have d0 : rd (list.drop n) 0 = (((list[n]).toNat : Nat) : Int) := by
    rw [hmm, drop_cons hlt]; rfl
   refine ⟨r, Ev.step (fun k => by simp only [spec_l8Hangs.l0]; exact rfl) (ifp (by omega) e1), Ev.step (fun k => by simp only [impl_hangs.l0]; exact rfl) (ifp (by rw [List.length_drop]; omega) (ifp (by rw [List.length_drop]; omega) ?_))⟩
   rw [d0]
   refine ifp (by omega) (ifp (by omega) (ifp (by rw [List.length_drop]; omega) ?_))
   rw [rdC hm, wrapS hnl (by omega), List.drop_drop]
   exact e2
/-- Whether cells hang together: the reference and the program tell the same. -/
theorem hangs_ev (l : List Cl) (h0 : 0 < l.length) (hn : l.length ≤ 1048576) (hs : ∀ x ∈ l, Small x) : ∃ r, Ev (fun k => spec_l8Hangs.f k l) r ∧ Ev (fun k => impl_hangs.f k l) r := by
 have hl : ((List.replicate l.length false).set 0 true).length = l.length := by simp
 have hc : ((List.replicate l.length false).set 0 true).count true = 1 := by
  rw [count_set (by simpa using h0) (by simp)]; simp [List.count_replicate]
 obtain ⟨r, e1, e2⟩ := hang_outer l hn hs 0 (Nat.zero_le _) _ [0] hl (by rw [hc]; rfl) (Nat.zero_le _) (by intro x hx; rw [List.mem_singleton] at hx; omega)
 refine ⟨r, ?_, ?_⟩
 ·unfold spec_l8Hangs.f
  refine ifp (by omega) (ifp (by omega) (somb rfl (ifp (by simpa using h0) ?_)))
  exact e1
 ·unfold impl_hangs.f
  refine ifp (by omega) (ifp (by omega) (somb rfl (ifp (by simpa using h0) ?_)))
  exact e2

/-! ### copies, and what is alike -/
end Go.Proofs.YtckhmeadflafaaaGreat.PureCells
