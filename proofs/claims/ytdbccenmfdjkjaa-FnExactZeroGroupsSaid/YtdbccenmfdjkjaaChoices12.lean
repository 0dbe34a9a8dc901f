/- Choices of at most twelve places in order, and the lists of them that the reference makes. No conditions beyond those of the lemmas' own hypotheses. -/
import Derived.Test.YtdbccenmfdjkjaaPlain
import Derived.Test.YtdbccenmfdjkjaaXZgx7
import Derived.Test.YtdbccenmfdjkjaaXZgx6
namespace Go.Proofs.Ytdbccenmfdjkjaa.PureChoices
open Go.RowKit Go.Proofs.Ytdbccenmfdjkjaa.XZg Go.Proofs.Ytdbccenmfdjkjaa.Plain Go.Proofs.YtdbccenmfdjkjaaW.PrintWords Go.Proofs.YtdbccenmfdjkjaaW.PrintLast Go.Proofs.YtdbccenmfdjkjaaW.PrintMore
set_option linter.unusedVariables false

/-! ### choices of places -/
/-- The places from one on. -/
def R (n i : Nat) : List Nat := List.range' i (n - i)
theorem R_nil (n : Nat) : R n n = [] := by unfold R; rw [Nat.sub_self]; rfl
theorem R_cons {n i : Nat} (h : i < n) : R n i = i :: R n (i + 1) := by
  unfold R
  rw [show n - i = (n - (i + 1)) + 1 from by omega, List.range'_succ]
def Val (n : Nat) (s : List Int) : Prop := ∀ x ∈ s, 0 ≤ x ∧ x < (n : Int)
/-- The first place that may follow. -/
def nx (s : List Int) : Nat := if s.length = 0 then 0 else (rd s ((s.length - 1 : Nat) : Int) + 1).toNat
theorem last_val {n : Nat} {s : List Int} (v : Val n s) (h : 0 < s.length) : 0 ≤ rd s ((s.length - 1 : Nat) : Int) ∧ rd s ((s.length - 1 : Nat) : Int) < (n : Int) := by
  rw [rd_lt (show s.length - 1 < s.length by omega)]
  exact v _ (List.getElem_mem _)
theorem nx_le {n : Nat} {s : List Int} (v : Val n s) : nx s ≤ n := by
  unfold nx
  split
  · omega
  · have := last_val v (by omega)
    omega
theorem val_snoc {n : Nat} {s : List Int} (v : Val n s) {i : Nat} (h : i < n) : Val n (s ++ [(i : Int)]) := by
  intro x hx
  rcases List.mem_append.1 hx with hx | hx
  · exact v x hx
  · rw [List.mem_singleton] at hx; omega
def ext (n : Nat) (s : List Int) : List (List Int) := (R n (nx s)).map fun i : Nat => s ++ [(i : Int)]
theorem mem_R {n i j : Nat} (h : j ∈ R n i) (hi : i ≤ n) : j < n := by
  unfold R at h
  rw [List.mem_range'_1] at h
  omega
theorem ext_mem {n : Nat} {s : List Int} (v : Val n s) : ∀ q ∈ ext n s, q.length = s.length + 1 ∧ Val n q := by
  intro q hq
  obtain ⟨i, hi, rfl⟩ := List.mem_map.1 hq
  exact ⟨by simp, val_snoc v (mem_R hi (nx_le v))⟩
theorem ext_len {n : Nat} (s : List Int) : (ext n s).length ≤ n := by
  unfold ext R; rw [List.length_map, List.length_range']; omega
/-- The choices of so many places, in order. -/
def SS (n : Nat) : Nat → List (List Int)
  | 0 => [[]]
  | t + 1 => (SS n t).flatMap (ext n)
theorem SS_mem (n : Nat) : ∀ t, ∀ s ∈ SS n t, s.length = t ∧ Val n s := by
  intro t
  induction t with
  | zero => intro s hs; rw [SS, List.mem_singleton] at hs; subst hs; exact ⟨rfl, fun x hx => by cases hx⟩
  | succ t ih =>
    intro s hs
    rw [SS, List.mem_flatMap] at hs
    obtain ⟨p, hp, hq⟩ := hs
    obtain ⟨h1, h2⟩ := ih p hp
    obtain ⟨h3, h4⟩ := ext_mem h2 s hq
    exact ⟨by omega, h4⟩
/-- What may follow some places, in the order in which the program goes through it. -/
def E (n : Nat) : Nat → List Int → List (List Int)
  | 0, p => [p]
  | m + 1, p => (R n (nx p)).flatMap fun i : Nat => E n m (p ++ [(i : Int)])
theorem E_ext (n : Nat) : ∀ m p, E n (m + 1) p = (E n m p).flatMap (ext n) := by
  intro m
  induction m with
  | zero =>
    intro p
    show (R n (nx p)).flatMap (fun i : Nat => [p ++ [(i : Int)]]) = [p].flatMap (ext n)
    rw [List.flatMap_singleton]
    unfold ext
    rw [List.map_eq_flatMap]
  | succ m ih =>
    intro p
    show (R n (nx p)).flatMap (fun i : Nat => E n (m + 1) (p ++ [(i : Int)])) = ((R n (nx p)).flatMap fun i : Nat => E n m (p ++ [(i : Int)])).flatMap (ext n)
    rw [List.flatMap_assoc]
    congr 1
    funext i
    exact ih _
theorem E_SS (n : Nat) : ∀ m, E n m [] = SS n m := by
  intro m
  induction m with
  | zero => rfl
  | succ m ih => rw [E_ext, ih]; rfl

/-- The sets of so many of the d places behind the first ones, in order. -/
def C : Nat → Nat → Nat → List (List Int)
  | _, _, 0 => [[]]
  | _, 0, _ + 1 => []
  | i, d + 1, t + 1 => (C (i + 1) d t).map (fun x => (i : Int) :: x) ++ C (i + 1) d (t + 1)
theorem C_none (i : Nat) : ∀ d t, d < t → C i d t = [] := by
  intro d
  induction d generalizing i with
  | zero => intro t h; cases t with | zero => omega | succ t => rfl
  | succ d ih =>
    intro t h
    cases t with
    | zero => omega
    | succ t =>
      show (C (i + 1) d t).map _ ++ C (i + 1) d (t + 1) = []
      rw [ih (i + 1) t (by omega), ih (i + 1) (t + 1) (by omega)]; rfl
theorem C_len : ∀ d i t, (C i d t).length ≤ 2 ^ d := by
  intro d
  induction d with
  | zero => intro i t; cases t <;> simp [C]
  | succ d ih =>
    intro i t
    cases t with
    | zero => rw [show C i (d + 1) 0 = [[]] from rfl, List.length_singleton]; exact Nat.one_le_two_pow
    | succ t =>
      rw [show C i (d + 1) (t + 1) = (C (i + 1) d t).map (fun x => (i : Int) :: x) ++ C (i + 1) d (t + 1) from rfl, List.length_append, List.length_map, Nat.pow_succ]
      have h1 := ih (i + 1) t
      have h2 := ih (i + 1) (t + 1)
      omega
/-- The choices of the reference are these sets. -/
theorem E_C (n : Nat) : ∀ m p, Val n p → E n m p = (C (nx p) (n - nx p) m).map (p ++ ·) := by
  intro m
  induction m with
  | zero => intro p v; cases h : n - nx p <;> simp [E, C]
  | succ m ih =>
    intro p v
    suffices key : ∀ d i, i + d = n → ((R n i).flatMap fun q : Nat => E n m (p ++ [(q : Int)])) = (C i d (m + 1)).map (p ++ ·) by
      have := nx_le v
      exact key (n - nx p) (nx p) (by omega)
    intro d
    induction d with
    | zero =>
      intro i hi
      rw [show i = n from by omega, R_nil]; rfl
    | succ d ihd =>
      intro i hi
      have hin : i < n := by omega
      have vs := val_snoc v hin
      have hnx : nx (p ++ [(i : Int)]) = i + 1 := by
        unfold nx
        rw [List.length_append, List.length_singleton, if_neg (by omega), show p.length + 1 - 1 = p.length from by omega, rd_lt (by simp)]
        simp
      rw [R_cons hin, List.flatMap_cons, ihd (i + 1) (by omega), ih _ vs, hnx, show n - (i + 1) = d from by omega]
      show _ = ((C (i + 1) d m).map (fun x => (i : Int) :: x) ++ C (i + 1) d (m + 1)).map (p ++ ·)
      rw [List.map_append, List.map_map]
      congr 1
      refine List.map_congr_left fun x _ => ?_
      show p ++ [(i : Int)] ++ x = p ++ ((i : Int) :: x)
      rw [List.append_assoc]; rfl
theorem SS_C (n m : Nat) : SS n m = C 0 n m := by
  rw [← E_SS, E_C n m [] (fun x hx => by cases hx)]
  exact (List.map_congr_left (fun x _ => List.nil_append x)).trans (List.map_id _)
theorem SS_small {n : Nat} (hn : n ≤ 12) (t : Nat) : (SS n t).length ≤ 4096 := by
  rw [SS_C]
  have h1 := C_len n 0 t
  have h2 : 2 ^ n ≤ 2 ^ 12 := Nat.pow_le_pow_right (by decide) hn
  have h3 : (2 : Nat) ^ 12 = 4096 := by decide
  omega
/-! ### the reference's lists -/
theorem rdL3_lt {S : List (List Int)} {j : Nat} (h : j < S.length) : rd_L3 S (j : Int) = S[j] := by
  unfold rd_L3; rw [Int.toNat_natCast]; exact getD_lt h _
theorem sets_l2 (n m t : Nat) (hn : n ≤ 12) (S : List (List Int)) (hS : S.length ≤ 4096) (j : Nat) (hj : j < S.length) (hs : S[j].length ≤ 12) : ∀ i, i ≤ n → ∀ (acc : List (List Int)) (r : List (List Int)), acc.length + (n - i) ≤ 1000000 → Ev (fun k => spec_l7Sets.l1 k (n : Int) (m : Int) S (t : Int) (acc ++ (R n i).map fun q : Nat => S[j] ++ [(q : Int)]) ((j + 1 : Nat) : Int)) r → Ev (fun k => spec_l7Sets.l2 k (n : Int) (m : Int) S (t : Int) acc (j : Int) (i : Int)) r := by
  refine downTo n ?_ ?_
  · intro acc r ha h
    rw [R_nil, List.map_nil, List.append_nil] at h
    refine Ev.step (fun k => by simp only [spec_l7Sets.l2]; exact rfl) (ifn (by omega) ?_)
    rw [wrapS hj (by omega)]; exact h
  · intro i hi ih acc r ha h
    refine Ev.step (fun k => by simp only [spec_l7Sets.l2]; exact rfl) (ifp (by omega) (ifp (by omega) (ifp (by omega) ?_)))
    rw [rdL3_lt hj, wrapS hi (by omega)]
    refine somb (a := S[j]) ?_ (ifp (by omega) (ifp (by omega) ?_))
    · unfold spec_l1Own.f
      simp only [Option.bind_some, List.length_nil, List.nil_append]
      rw [if_pos (by omega)]
    · refine ih _ r (by rw [List.length_append, List.length_singleton]; omega) ?_
      rw [R_cons hi, List.map_cons] at h
      rw [List.append_assoc, List.singleton_append]
      exact h
theorem sets_l1 (n m t : Nat) (hn : n ≤ 12) (ht : t ≤ 12) (S : List (List Int)) (hS : S.length ≤ 4096) (hm : ∀ s ∈ S, s.length = t ∧ Val n s) (r : List (List Int)) : ∀ j, j ≤ S.length → ∀ acc : List (List Int), acc.length + 12 * (S.length - j) ≤ 900000 → Ev (fun k => spec_l7Sets.l0 k (n : Int) (m : Int) (acc ++ (S.drop j).flatMap (ext n)) ((t + 1 : Nat) : Int)) r → Ev (fun k => spec_l7Sets.l1 k (n : Int) (m : Int) S (t : Int) acc (j : Int)) r := by
  refine downTo S.length ?_ ?_
  · intro acc ha h
    rw [List.drop_length, List.flatMap_nil, List.append_nil] at h
    refine Ev.step (fun k => by simp only [spec_l7Sets.l1]; exact rfl) (ifn (by omega) ?_)
    rw [w64 (by omega) (by omega), show (t : Int) + 1 = ((t + 1 : Nat) : Int) from by omega]; exact h
  · intro j hj ih acc ha h
    obtain ⟨h1, h2⟩ := hm S[j] (List.getElem_mem hj)
    have hnx := nx_le h2
    have hxl : ((R n (nx S[j])).map fun q : Nat => S[j] ++ [(q : Int)]).length ≤ n := ext_len S[j]
    have key : Ev (fun k => spec_l7Sets.l2 k (n : Int) (m : Int) S (t : Int) acc (j : Int) ((nx S[j] : Nat) : Int)) r := by
      refine sets_l2 n m t hn S hS j hj (by omega) (nx S[j]) hnx acc r (by omega) (ih _ (by rw [List.length_append]; omega) ?_)
      rw [drop_cons hj, List.flatMap_cons] at h
      rw [List.append_assoc]
      exact h
    have key2 : Ev (fun k => spec_l7Sets.j2 k (n : Int) (m : Int) S (t : Int) acc (j : Int) ((nx S[j] : Nat) : Int)) r := Ev.step (fun k => by rw [spec_l7Sets.j2]) key
    refine Ev.step (fun k => by simp only [spec_l7Sets.l1]; exact rfl) (ifp (by omega) ?_)
    by_cases hz : t = 0
    · have e : nx S[j] = 0 := by unfold nx; rw [if_pos (by omega)]
      rw [e] at key2
      exact ifn (by omega) key2
    · have hw : wrap64 ((t : Int) - 1) = ((t - 1 : Nat) : Int) := by rw [w64 (by omega) (by omega)]; omega
      have lv := last_val h2 (by omega)
      rw [show S[j].length - 1 = t - 1 from by omega] at lv
      have e : ((nx S[j] : Nat) : Int) = rd S[j] ((t - 1 : Nat) : Int) + 1 := by
        unfold nx
        rw [if_neg (by omega), show S[j].length - 1 = t - 1 from by omega]
        omega
      rw [e] at key2
      rw [rdL3_lt hj, hw]
      refine ifp (by omega) (ifp (by omega) (ifp (by omega) (ifp (by omega) ?_)))
      rw [w64 (by omega) (by omega)]
      exact key2
theorem sets_l0 (n m : Nat) (hn : n ≤ 12) (hm : m ≤ 12) : ∀ t, t ≤ m → Ev (fun k => spec_l7Sets.l0 k (n : Int) (m : Int) (SS n t) (t : Int)) (SS n m) := by
  refine downTo m ?_ ?_
  · exact Ev.step (fun k => by simp only [spec_l7Sets.l0]; exact rfl) (ifn (by omega) (done rfl))
  · intro t ht ih
    have hl := SS_small hn t
    refine Ev.step (fun k => by simp only [spec_l7Sets.l0]; exact rfl) (ifp (by omega) ?_)
    refine sets_l1 n m t hn (by omega) (SS n t) hl (SS_mem n t) _ 0 (Nat.zero_le _) [] (by simp only [List.length_nil]; omega) ?_
    rw [List.drop_zero, List.nil_append]
    exact ih
theorem l7Sets_ev (n m : Nat) (hn : n ≤ 12) (hm : m ≤ 12) : Ev (fun k => spec_l7Sets.f k (n : Int) (m : Int)) (SS n m) := sets_l0 n m hn hm 0 (Nat.zero_le _)
end Go.Proofs.Ytdbccenmfdjkjaa.PureChoices
