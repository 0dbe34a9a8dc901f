/- Tables of whole numbers that a law marks, and looks at again. No conditions beyond those of the lemmas' own hypotheses. -/
import Derived.Test.YtdbccenmfdjkjaaInts
import Derived.Test.YtdbccenmfdjkjaaHeldInts
import Derived.Test.YtdbccenmfdjkjaaXZgx4
import Derived.Test.YtdbccenmfdjkjaaXZgx5
import Derived.Test.YtdbccenmfdjkjaaXZgx2
namespace Go.Proofs.Ytdbccenmfdjkjaa.PureTables
open Go.RowKit Go.Proofs.Ytdbccenmfdjkjaa.XZg Go.Proofs.Ytdbccenmfdjkjaa.Plain Go.Proofs.Ytdbccenmfdjkjaa.PureInts Go.Proofs.Ytdbccenmfdjkjaa.PureMarkInts Go.Proofs.Ytdbccenmfdjkjaa.PureHeldInts Go.Proofs.YtdbccenmfdjkjaaW.PrintWords Go.Proofs.YtdbccenmfdjkjaaW.PrintLast Go.Proofs.YtdbccenmfdjkjaaW.PrintMore
set_option linter.unusedVariables false
theorem rdT_lt {S : List (List Int)} {j : Nat} (h : j < S.length) : rd_L3 S (j : Int) = S[j] := by
  unfold rd_L3; rw [Int.toNat_natCast]; exact getD_lt h _
/-- How many numbers a table holds. -/
def tot : List (List Int) → Nat
  | [] => 0
  | x :: L => x.length + tot L
/-- A table whose numbers are counted through. -/
def Mk : List (List Int) → List (List Int) → Int → Prop
  | [], [], _ => True
  | x :: L, y :: M, c => y.length = x.length ∧ (∀ j : Nat, j < x.length → rd y (j : Int) = c + (j : Int)) ∧ Mk L M (c + (x.length : Int))
  | [], _ :: _, _ => False
  | _ :: _, [], _ => False
theorem tot_drop {L : List (List Int)} {i : Nat} (h : i < L.length) : tot (L.drop i) = L[i].length + tot (L.drop (i + 1)) := by
  rw [drop_cons h]; rfl
theorem tot_le (m : Nat) : ∀ L : List (List Int), (∀ x ∈ L, x.length ≤ m) → tot L ≤ L.length * m := by
  intro L
  induction L with
  | nil => intro _; simp [tot]
  | cons x L ih =>
    intro h
    have h1 := ih (fun y hy => h y (List.mem_cons_of_mem _ hy))
    have h2 := h x (List.mem_cons_self ..)
    rw [tot, List.length_cons, Nat.succ_mul]; omega
theorem eqIntSS_ev (L : List (List Int)) (hn : L.length ≤ 140737488355328) (hm : ∀ x ∈ L, x.length ≤ 140737488355328) : Ev (fun k => laws_eqIntSS.f k L L) true := by
  suffices key : ∀ i, i ≤ L.length → Ev (fun k => laws_eqIntSS.l0 k L L (i : Int)) true from by
    unfold laws_eqIntSS.f; exact ifp rfl (key 0 (Nat.zero_le _))
  refine downTo L.length ?_ ?_
  · exact Ev.step (fun k => by simp only [laws_eqIntSS.l0]; exact rfl) (ifn (by omega) (done rfl))
  · intro i hi ih
    refine Ev.step (fun k => by simp only [laws_eqIntSS.l0]; exact rfl) (ifp (by omega) (ifp (by omega) (ifp (by omega) ?_)))
    rw [rdT_lt hi, wrapS hi hn]
    exact Ev.bind (eqIntS_ev _ (hm _ (List.getElem_mem hi))) (ifp (Eq.refl true) ih)
theorem mark_l0 (L : List (List Int)) (hn : L.length ≤ 1048576) (hm : ∀ x ∈ L, x.length ≤ 1048576) : ∀ i, i ≤ L.length → ∀ (M : List (List Int)) (c : Int), M.length = i → 0 ≤ c → c + (tot (L.drop i) : Int) ≤ 4611686018427387904 → ∃ M2, Ev (fun k => laws_markIntSS.l0 k (M ++ L.drop i) c (i : Int)) (c + (tot (L.drop i) : Int), M ++ M2) ∧ Mk (L.drop i) M2 c := by
  refine downTo L.length ?_ ?_
  · intro M c hM h0 h1
    rw [List.drop_length]
    refine ⟨[], Ev.step (fun k => by simp only [laws_markIntSS.l0]; exact rfl) (ifn (by simp; omega) (done ?_)), trivial⟩
    simp [tot]
  · intro i hi ih M c hM h0 h1
    rw [tot_drop hi] at h1
    obtain ⟨y, hy, hyl, hyr⟩ := markIntS_ev L[i] (hm _ (List.getElem_mem hi)) c h0 (by omega)
    obtain ⟨M2, e, k2⟩ := ih (M ++ [y]) (c + (L[i].length : Int)) (by rw [List.length_append, List.length_singleton, hM]) (by omega) (by omega)
    have hlen : (M ++ L.drop i).length = L.length := by rw [List.length_append, List.length_drop]; omega
    have hii : i < (M ++ L.drop i).length := by omega
    have hg : (M ++ L.drop i)[i] = L[i] := by
      rw [List.getElem_append_right (by omega)]
      simp [hM]
    have hs : (M ++ L.drop i).set i y = (M ++ [y]) ++ L.drop (i + 1) := by
      rw [List.set_append_right _ _ (by omega), hM, Nat.sub_self, drop_cons hi, List.set_cons_zero, List.append_assoc]; rfl
    refine ⟨y :: M2, Ev.step (fun k => by simp only [laws_markIntSS.l0]; exact rfl) (ifp (by omega) (ifp (by omega) ?_)), ?_⟩
    · rw [rdT_lt hii, hg, Int.toNat_natCast]
      refine Ev.bind hy ?_
      rw [hs, wrapS hi (by omega), tot_drop hi]
      simp only [List.append_assoc, List.singleton_append] at e
      have ec : c + ((L[i].length + tot (L.drop (i + 1)) : Nat) : Int) = c + (L[i].length : Int) + (tot (L.drop (i + 1)) : Int) := by omega
      rw [ec]
      simp only [List.append_assoc, List.singleton_append]
      exact e
    · rw [drop_cons hi]
      exact ⟨hyl, hyr, k2⟩
theorem markIntSS_ev (L : List (List Int)) (hn : L.length ≤ 1048576) (hm : ∀ x ∈ L, x.length ≤ 1048576) (h1 : (tot L : Int) ≤ 4611686018427387000) : ∃ M, Ev (fun k => laws_markIntSS.f k L 1) (1 + (tot L : Int), M) ∧ Mk L M 1 := by
  obtain ⟨M, e, k⟩ := mark_l0 L hn hm 0 (Nat.zero_le _) [] 1 rfl (by omega) (by rw [List.drop_zero]; omega)
  rw [List.drop_zero] at k
  simp only [List.drop_zero, List.nil_append] at e
  exact ⟨M, e, k⟩
theorem Mk_len : ∀ (L M : List (List Int)) (c : Int), Mk L M c → M.length = L.length := by
  intro L
  induction L with
  | nil => intro M c h; cases M with
    | nil => rfl
    | cons y M => exact h.elim
  | cons x L ih => intro M c h; cases M with
    | nil => exact h.elim
    | cons y M => rw [List.length_cons, List.length_cons, ih M _ h.2.2]
theorem held_l0 (L M : List (List Int)) (hn : L.length ≤ 1048576) (hm : ∀ x ∈ L, x.length ≤ 1048576) (hl : M.length = L.length) : ∀ i, i ≤ L.length → ∀ c : Int, 0 ≤ c → c + (tot (L.drop i) : Int) ≤ 4611686018427387904 → Mk (L.drop i) (M.drop i) c → Ev (fun k => laws_heldIntSS.l0 k M c (i : Int)) (c + (tot (L.drop i) : Int)) := by
  refine downTo L.length ?_ ?_
  · intro c h0 h1 _
    rw [List.drop_length]
    exact Ev.step (fun k => by simp only [laws_heldIntSS.l0]; exact rfl) (ifn (by omega) (done (by simp [tot])))
  · intro i hi ih c h0 h1 k
    have hi2 : i < M.length := by omega
    rw [tot_drop hi] at h1
    rw [drop_cons hi, drop_cons hi2] at k
    obtain ⟨k1, k2, k3⟩ := k
    have hh := heldIntS_ev M[i] L[i].length k1 (hm _ (List.getElem_mem hi)) c h0 (by omega) k2
    refine Ev.step (fun k => by simp only [laws_heldIntSS.l0]; exact rfl) (ifp (by omega) (ifp (by omega) ?_))
    rw [rdT_lt hi2]
    refine Ev.bind hh (ifn (by omega) ?_)
    rw [wrapS hi (by omega), tot_drop hi]
    have ec : c + ((L[i].length + tot (L.drop (i + 1)) : Nat) : Int) = c + (L[i].length : Int) + (tot (L.drop (i + 1)) : Int) := by omega
    rw [ec]
    exact ih _ (by omega) (by omega) k3
theorem heldIntSS_ev (L M : List (List Int)) (hn : L.length ≤ 1048576) (hm : ∀ x ∈ L, x.length ≤ 1048576) (h1 : (tot L : Int) ≤ 4611686018427387000) (k : Mk L M 1) : Ev (fun k => laws_heldIntSS.f k M 1) (1 + (tot L : Int)) := by
  have := held_l0 L M hn hm (Mk_len L M 1 k) 0 (Nat.zero_le _) 1 (by omega) (by rw [List.drop_zero]; omega) (by rw [List.drop_zero, List.drop_zero]; exact k)
  simp only [List.drop_zero] at this
  exact this
end Go.Proofs.Ytdbccenmfdjkjaa.PureTables
