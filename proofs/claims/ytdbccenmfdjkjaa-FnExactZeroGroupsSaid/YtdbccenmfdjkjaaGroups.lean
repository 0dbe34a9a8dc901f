/- Groups of loads with the moment 0 about a place, in the program and in the reference. No conditions beyond those of the lemmas' own hypotheses. -/
import Derived.Test.YtdbccenmfdjkjaaSubsets
import Derived.Test.YtdbccenmfdjkjaaBits
import Derived.Test.YtdbccenmfdjkjaaMoment
import Derived.Test.YtdbccenmfdjkjaaXZgx8
import Derived.Test.YtdbccenmfdjkjaaXZgx13
namespace Go.Proofs.Ytdbccenmfdjkjaa.PureGroups
open Go.RowKit Go.Proofs.Ytdbccenmfdjkjaa.XZg Go.Proofs.Ytdbccenmfdjkjaa.Plain Go.Proofs.Ytdbccenmfdjkjaa.Bits Go.Proofs.Ytdbccenmfdjkjaa.PureRow Go.Proofs.Ytdbccenmfdjkjaa.PureMoment Go.Proofs.Ytdbccenmfdjkjaa.PureChoices Go.Proofs.Ytdbccenmfdjkjaa.PureSubsets Go.Proofs.YtdbccenmfdjkjaaW.PrintWords Go.Proofs.YtdbccenmfdjkjaaW.PrintLast Go.Proofs.YtdbccenmfdjkjaaW.PrintMore
set_option linter.unusedVariables false
/-- One load's share. -/
def tm (l : List Ld) (p y : Int) : Int := (rd_T41 l y).f1 * ((rd_T41 l y).f0 - p)
/-- The moment of a group. -/
def gm (l : List Ld) (p : Int) : List Int → Int
  | [] => 0
  | y :: x => tm l p y + gm l p x
theorem gm_append (l : List Ld) (p : Int) (x z : List Int) : gm l p (x ++ z) = gm l p x + gm l p z := by
  induction x with
  | nil => simp [gm]
  | cons y x ih => rw [List.cons_append, gm, gm, ih]; omega
theorem tm_le {l : List Ld} (h : RowV l) {p : Int} (hp : 0 ≤ p ∧ p ≤ 60) {y : Int} (hy : 0 ≤ y ∧ y < (l.length : Int)) : -5940 ≤ tm l p y ∧ tm l p y ≤ 5940 := by
  obtain ⟨i, rfl⟩ := Int.eq_ofNat_of_zero_le hy.1
  have hi : i < l.length := by omega
  unfold tm
  rw [rdL hi]
  have h2 := h.each l[i] (List.getElem_mem hi)
  exact one_le h2.2.2.1 h2.2.2.2 (by omega) (by omega)
theorem gm_le {l : List Ld} (h : RowV l) {p : Int} (hp : 0 ≤ p ∧ p ≤ 60) : ∀ x : List Int, Val l.length x → -5940 * (x.length : Int) ≤ gm l p x ∧ gm l p x ≤ 5940 * (x.length : Int) := by
  intro x
  induction x with
  | nil => intro _; simp [gm]
  | cons y x ih =>
    intro v
    have h1 := ih (fun z hz => v z (List.mem_cons_of_mem _ hz))
    have h2 := tm_le h hp (v y (List.mem_cons_self ..))
    simp only [gm, List.length_cons]
    omega
theorem step_tm {l : List Ld} (h : RowV l) {p : Int} (hp : 0 ≤ p ∧ p ≤ 60) {y acc : Int} (hy : 0 ≤ y ∧ y < (l.length : Int)) (ha : -100000 ≤ acc ∧ acc ≤ 100000) :
    wrap64 (acc + (wrap64 (((rd_T41 l y).f1) * (wrap64 (((rd_T41 l y).f0) - p))))) = acc + tm l p y := by
  obtain ⟨i, rfl⟩ := Int.eq_ofNat_of_zero_le hy.1
  have hi : i < l.length := by omega
  have := step_eq h hp hi ha
  unfold tm
  rw [rdL hi] at this ⊢
  exact this
/-! ### the reference -/
theorem zero_l0 {l : List Ld} (h : RowV l) {p : Int} (hp : 0 ≤ p ∧ p ≤ 60) (x : List Int) (v : Val l.length x) (hx : x.length ≤ 12) : ∀ i, i ≤ x.length → ∀ acc : Int, -5940 * (i : Int) ≤ acc ∧ acc ≤ 5940 * (i : Int) → Ev (fun k => spec_l9Zero.l0 k l p x acc (i : Int)) (acc + gm l p (x.drop i) == 0) := by
  refine downTo x.length ?_ ?_
  · intro acc ha
    rw [List.drop_length]
    exact Ev.step (fun k => by simp only [spec_l9Zero.l0]; exact rfl) (ifn (by omega) (done (by simp [gm])))
  · intro i hi ih acc ha
    have hv := v x[i] (List.getElem_mem hi)
    have ht := tm_le h hp hv
    have e : rd x (i : Int) = x[i] := rd_lt hi
    refine Ev.step (fun k => by simp only [spec_l9Zero.l0]; exact rfl) (ifp (by omega) (ifp (by omega) ?_))
    rw [e]
    refine ifp hv.1 (ifp hv.2 ?_)
    rw [step_tm h hp hv (by omega), wrapS hi (by omega), drop_cons hi, gm, ← Int.add_assoc]
    exact ih _ (by omega)
def Z (l : List Ld) (p : Int) (x : List Int) : Bool := gm l p x == 0
theorem l9Zero_ev {l : List Ld} (h : RowV l) {p : Int} (hp : 0 ≤ p ∧ p ≤ 60) (x : List Int) (v : Val l.length x) (hx : x.length ≤ 12) : Ev (fun k => spec_l9Zero.f k l p x) (Z l p x) := by
  have := zero_l0 h hp x v hx 0 (Nat.zero_le _) 0 (by simp)
  simpa [spec_l9Zero.f, Z] using this
theorem groups_l1 {l : List Ld} (h : RowV l) {p : Int} (hp : 0 ≤ p ∧ p ≤ 60) (t : Nat) (S : List (List Int)) (hS : S.length ≤ 4096) (hm : ∀ x ∈ S, x.length ≤ 12 ∧ Val l.length x) (r : List (List Int)) : ∀ j, j ≤ S.length → ∀ acc : List (List Int), acc.length + (S.length - j) ≤ 100000 → Ev (fun k => spec_l9Groups.l0 k l p (acc ++ (S.drop j).filter (Z l p)) (wrap64 ((t : Int) + 1))) r → Ev (fun k => spec_l9Groups.l1 k l p acc (t : Int) S (j : Int)) r := by
  refine downTo S.length ?_ ?_
  · intro acc ha hr
    rw [List.drop_length, List.filter_nil, List.append_nil] at hr
    exact Ev.step (fun k => by simp only [spec_l9Groups.l1]; exact rfl) (ifn (by omega) hr)
  · intro j hj ih acc ha hr
    obtain ⟨h1, h2⟩ := hm S[j] (List.getElem_mem hj)
    have hz := l9Zero_ev h hp S[j] h2 h1
    refine Ev.step (fun k => by simp only [spec_l9Groups.l1]; exact rfl) (ifp (by omega) (ifp (by omega) ?_))
    rw [rdL3_lt hj, wrapS hj (by omega)]
    rw [drop_cons hj] at hr
    refine Ev.bind hz ?_
    cases q : Z l p S[j] with
    | true =>
      rw [List.filter_cons_of_pos q] at hr
      refine ifp (Eq.refl true) (ifp (by omega) (ih _ (by rw [List.length_append, List.length_singleton]; omega) ?_))
      rw [List.append_assoc]; exact hr
    | false =>
      rw [List.filter_cons_of_neg (by rw [q]; exact Bool.false_ne_true)] at hr
      exact ifn Bool.false_ne_true (ih _ (by omega) hr)
theorem range_drop {n c : Nat} (h : c < n) : (List.range n).drop c = c :: (List.range n).drop (c + 1) := by
  rw [drop_cons (l := List.range n) (by simpa using h)]
  simp
theorem groups_l0 {l : List Ld} (h : RowV l) {p : Int} (hp : 0 ≤ p ∧ p ≤ 60) : ∀ t, t ≤ l.length + 1 → ∀ acc : List (List Int), acc.length ≤ 4096 * t → Ev (fun k => spec_l9Groups.l0 k l p acc (t : Int)) (acc ++ (((List.range (l.length + 1)).drop t).flatMap (C 0 l.length)).filter (Z l p)) := by
  have hn := h.n
  refine downTo (l.length + 1) ?_ ?_
  · intro acc ha
    refine Ev.step (fun k => by simp only [spec_l9Groups.l0]; exact rfl) (ifn (by omega) (done ?_))
    rw [List.drop_of_length_le (by simp)]; simp
  · intro t ht ih acc ha
    have hs := SS_small hn t
    refine Ev.step (fun k => by simp only [spec_l9Groups.l0]; exact rfl) (ifp (by omega) ?_)
    refine Ev.bind (l7Sets_ev l.length t hn (by omega)) ?_
    refine groups_l1 h hp t (SS l.length t) hs (fun x hx => ?_) _ 0 (Nat.zero_le _) acc (by omega) ?_
    · obtain ⟨q1, q2⟩ := SS_mem _ _ x hx
      exact ⟨by omega, q2⟩
    · rw [wrapS ht (by omega), List.drop_zero, range_drop ht, List.flatMap_cons, List.filter_append, ← List.append_assoc, SS_C]
      refine ih _ ?_
      rw [SS_C] at hs
      have := List.length_filter_le (Z l p) (C 0 l.length t)
      rw [List.length_append]; omega
/-- The groups. -/
def Zs (l : List Ld) (p : Int) : List (List Int) := (All 0 l.length).filter (Z l p)
theorem l9Groups_ev {l : List Ld} (h : RowV l) {p : Int} (hp : 0 ≤ p ∧ p ≤ 60) : Ev (fun k => spec_l9Groups.f k l p) (Zs l p) := by
  have := groups_l0 h hp 0 (Nat.zero_le _) [] (Nat.zero_le _)
  simpa [spec_l9Groups.f, Zs, All] using this
/-! ### the program -/
theorem val_grp (n : Nat) : ∀ d i c, i + d = n → Val n (grp i d c) := by
  intro d
  induction d with
  | zero => intro i c _ x hx; cases hx
  | succ d ih =>
    intro i c hd x hx
    rw [grp] at hx
    split at hx
    · rcases List.mem_cons.1 hx with rfl | hx
      · omega
      · exact ih (i + 1) _ (by omega) x hx
    · exact ih (i + 1) _ (by omega) x hx
theorem zg_l1 {l : List Ld} (h : RowV l) {p : Int} (hp : 0 ≤ p ∧ p ≤ 60) (c : Nat) (hc : c ≤ 4096) (b : Int) (acc : List (List Int)) (ha : acc.length ≤ 4096) (r : List (List Int)) : ∀ i, i ≤ l.length → ∀ G : List Int, G.length ≤ i → Val l.length G →
    Ev (fun k => impl_zeroGroups.l0 k l p (if Z l p (G ++ grp i (l.length - i) (c / 2 ^ i)) = true then acc ++ [G ++ grp i (l.length - i) (c / 2 ^ i)] else acc) b (wrap64 ((c : Int) + 1))) r →
    Ev (fun k => impl_zeroGroups.l1 k l p acc (c : Int) G (gm l p G) b (c : Int) l (l.length : Int) (i : Int)) r := by
  have hn := h.n
  refine downTo l.length ?_ ?_
  · intro G hG v hr
    rw [Nat.sub_self, show grp l.length 0 (c / 2 ^ l.length) = [] from rfl, List.append_nil] at hr
    refine Ev.step (fun k => by simp only [impl_zeroGroups.l1]; exact rfl) (ifn (by omega) ?_)
    by_cases hz : gm l p G = 0
    · rw [if_pos (by unfold Z; exact beq_iff_eq.2 hz)] at hr
      exact ifp hz (ifp (by omega) hr)
    · rw [if_neg (by unfold Z; exact fun q => hz (beq_iff_eq.1 q))] at hr
      exact ifn hz hr
  · intro i hi ih G hG v hr
    have hd : l.length - i = (l.length - (i + 1)) + 1 := by omega
    have e2 : c / 2 ^ i / 2 = c / 2 ^ (i + 1) := by rw [Nat.div_div_eq_div_mul, Nat.pow_succ]
    have hb := bitN c (y := (i : Int)) rfl (by omega) (show i ≤ 62 by omega)
    have ht : c.testBit i = decide (c / 2 ^ i % 2 = 1) := by
      rw [Nat.testBit_eq_decide_div_mod_eq]
    have hy : 0 ≤ (i : Int) ∧ (i : Int) < (l.length : Int) := by omega
    have hg := gm_le h hp G v
    rw [hd, grp, e2] at hr
    refine Ev.step (fun k => by simp only [impl_zeroGroups.l1]; exact rfl) (ifp (by omega) (ifp (by omega) (ifp (by omega) ?_)))
    rw [hb, ht, wrapS hi (by omega), step_tm h hp hy (by omega)]
    by_cases q : c / 2 ^ i % 2 = 1
    · rw [if_pos q] at hr
      refine ifp (by simp [q]) (ifp (by omega) ?_)
      have e3 : gm l p G + tm l p (i : Int) = gm l p (G ++ [(i : Int)]) := by rw [gm_append]; simp [gm]
      rw [e3]
      refine ih _ (by rw [List.length_append, List.length_singleton]; omega) (fun x hx => ?_) ?_
      · rcases List.mem_append.1 hx with hx | hx
        · exact v x hx
        · rw [List.mem_singleton] at hx; omega
      · rw [List.append_assoc, List.singleton_append]; exact hr
    · rw [if_neg q] at hr
      exact ifn (by simp [q]) (ih _ (by omega) v hr)
theorem zg_l0 {l : List Ld} (h : RowV l) {p : Int} (hp : 0 ≤ p ∧ p ≤ 60) (N : Nat) (hN : N = 2 ^ l.length) (hN2 : N ≤ 4096) : ∀ c, c ≤ N → ∀ acc : List (List Int), acc.length ≤ c → Ev (fun k => impl_zeroGroups.l0 k l p acc (N : Int) (c : Int)) (acc ++ (((List.range N).drop c).map (grp 0 l.length)).filter (Z l p)) := by
  refine downTo N ?_ ?_
  · intro acc ha
    refine Ev.step (fun k => by simp only [impl_zeroGroups.l0]; exact rfl) (ifn (by omega) (done ?_))
    rw [List.drop_of_length_le (by simp)]; simp
  · intro c hc ih acc ha
    refine Ev.step (fun k => by simp only [impl_zeroGroups.l0]; exact rfl) (ifp (by omega) ?_)
    refine zg_l1 h hp c (by omega) (N : Int) acc (by omega) _ 0 (Nat.zero_le _) [] (Nat.le_refl _) (fun x hx => by cases hx) ?_
    rw [List.nil_append, Nat.sub_zero, Nat.pow_zero, Nat.div_one, wrapS hc (by omega), range_drop hc, List.map_cons]
    by_cases q : Z l p (grp 0 l.length c) = true
    · rw [if_pos q, List.filter_cons_of_pos q, show acc ++ (grp 0 l.length c :: ((List.drop (c + 1) (List.range N)).map (grp 0 l.length)).filter (Z l p)) = (acc ++ [grp 0 l.length c]) ++ ((List.drop (c + 1) (List.range N)).map (grp 0 l.length)).filter (Z l p) from by rw [List.append_assoc]; rfl]
      exact ih _ (by rw [List.length_append, List.length_singleton]; omega)
    · rw [if_neg q, List.filter_cons_of_neg q]
      exact ih _ (by omega)
theorem grp_zero (d : Nat) : ∀ i, grp i d 0 = [] := by
  induction d with
  | zero => intro i; rfl
  | succ d ih => intro i; rw [grp, if_neg (by omega)]; exact ih (i + 1)
theorem zeroGroups_ev {l : List Ld} (h : RowV l) {p : Int} (hp : 0 ≤ p ∧ p ≤ 60) : Ev (fun k => impl_zeroGroups.f k l p) (Zs l p) := by
  have hn := h.n
  obtain ⟨N, hN⟩ : ∃ N, N = 2 ^ l.length := ⟨_, rfl⟩
  have hN2 : N ≤ 4096 := by
    rw [hN]
    have h2 : 2 ^ l.length ≤ 2 ^ 12 := Nat.pow_le_pow_right (by decide) hn
    have h3 : (2 : Nat) ^ 12 = 4096 := by decide
    omega
  have hN0 : 0 < N := by rw [hN]; exact Nat.two_pow_pos _
  have hs : shl .i64 1 (l.length : Int) = (N : Int) := by rw [shlN rfl (by omega), hN]
  have e := zg_l0 h hp N hN hN2 0 (Nat.zero_le _) [] (Nat.le_refl _)
  rw [List.nil_append, List.drop_zero] at e
  have eg : Ev (fun k => impl_zeroGroups.g k l p) (((List.range N).map (grp 0 l.length)).filter (Z l p)) := by
    unfold impl_zeroGroups.g
    rw [hs]; exact e
  have hle : (((List.range N).map (grp 0 l.length)).filter (Z l p)).length ≤ 4096 := by
    have := List.length_filter_le (Z l p) ((List.range N).map (grp 0 l.length))
    rw [List.length_map, List.length_range] at this
    omega
  have hlt : 0 < (((List.range N).map (grp 0 l.length)).filter (Z l p)).length := by
    refine List.length_pos_of_mem (a := []) (List.mem_filter.2 ⟨List.mem_map.2 ⟨0, List.mem_range.2 hN0, grp_zero _ _⟩, ?_⟩)
    simp [Z, gm]
  have hu : Zs l p = sortG (((List.range N).map (grp 0 l.length)).filter (Z l p)) := by
    refine sortG_unique ?_ ?_
    · rw [hN]; exact ((grp_all l.length 0).filter _).symm
    · exact (All_sorted 0 l.length).filter _
  unfold impl_zeroGroups.f
  refine Ev.bind eg (ifp ⟨hlt, by omega⟩ (done hu.symm))
end Go.Proofs.Ytdbccenmfdjkjaa.PureGroups
