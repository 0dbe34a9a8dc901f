/- What the checks of rafts and the reserves come to, in the program and in the reference alike. No conditions beyond those of the lemmas' own hypotheses. -/
import Derived.Test.YtkpdddlecibbnaaRow
import Derived.Test.YtkpdddlecibbnaaXAllx3
import Derived.Test.YtkpdddlecibbnaaXAllx5
namespace Go.Proofs.Ytkpdddlecibbnaa.PureRaft
open Go.RowKit Go.Proofs.Ytkpdddlecibbnaa.XAll Go.Proofs.Ytkpdddlecibbnaa.Plain Go.Proofs.Ytkpdddlecibbnaa.PureRow Go.Proofs.YtkpdddlecibbnaaW.PrintWords Go.Proofs.YtkpdddlecibbnaaW.PrintLast Go.Proofs.YtkpdddlecibbnaaW.PrintMore
set_option linter.unusedVariables false

def RaftOK (a b o : Int) : Bool := Pl a && (Pl b && (decide (a ≤ b) && decide (1 ≤ o ∧ o ≤ 99)))
theorem l10Raft_eq (a b o : Int) : spec_l10Raft.f a b o = some (RaftOK a b o) := by
  unfold spec_l10Raft.f spec_l2Base.f RaftOK
  rw [l2In_eq, l2In_eq, l1In_eq]
  cases Pl a <;> cases Pl b <;> by_cases h : a ≤ b <;> simp [h]
theorem isRaft_eq (a b o : Int) : impl_IsRaft.f a b o = some (RaftOK a b o) := by
  unfold impl_IsRaft.f impl_isBase.f RaftOK
  rw [isPlace_eq, isPlace_eq, within_eq]
  cases Pl a <;> cases Pl b <;> by_cases h : a ≤ b <;> simp [h]
def CargoOK (a b o : Int) (l : List Ld) : Bool := RaftOK a b o && (RowOK l && decide (l.length ≤ 8))
theorem l10Cargo_ev (a b o : Int) (l : List Ld) (hn : l.length ≤ 140737488355328) : Ev (fun k => spec_l10Cargo.f k a b o l) (CargoOK a b o l) := by
  unfold spec_l10Cargo.f CargoOK
  refine somb (l10Raft_eq _ _ _) ?_
  cases RaftOK a b o with
  | false => exact ifn (by decide) (done rfl)
  | true =>
    refine ifp rfl (Ev.bind (l2Row_ev l hn) ?_)
    cases RowOK l with
    | false => exact ifn (by decide) (done rfl)
    | true => exact ifp rfl (done (by simp; omega))
theorem areCargo_ev (a b o : Int) (l : List Ld) (hn : l.length ≤ 140737488355328) : Ev (fun k => impl_areCargo.f k a b o l) (CargoOK a b o l) := by
  unfold impl_areCargo.f CargoOK
  refine somb (isRaft_eq _ _ _) ?_
  cases RaftOK a b o with
  | false => exact ifn (by decide) (done rfl)
  | true =>
    refine ifp rfl (Ev.bind (isRow_ev l hn) ?_)
    cases RowOK l with
    | false => exact ifn (by decide) (done rfl)
    | true => exact ifp rfl (done (by simp; omega))
structure Valid (a b o : Int) (l : List Ld) : Prop where
  a0 : 0 ≤ a
  a1 : a ≤ 60
  b0 : 0 ≤ b
  b1 : b ≤ 60
  ab : a ≤ b
  o0 : 1 ≤ o
  o1 : o ≤ 99
  n : l.length ≤ 8
  each : ∀ x ∈ l, 0 ≤ x.f0 ∧ x.f0 ≤ 60 ∧ 1 ≤ x.f1 ∧ x.f1 ≤ 99
theorem valid_of {a b o : Int} {l : List Ld} (h : CargoOK a b o l = true) : Valid a b o l := by
  unfold CargoOK RaftOK RowOK Pl at h
  simp only [Bool.and_eq_true, decide_eq_true_eq, List.all_eq_true] at h
  obtain ⟨⟨⟨h1, h2⟩, ⟨h3, h4⟩, h5, h6, h7⟩, ⟨_, h8⟩, h9⟩ := h
  refine ⟨h1, h2, h3, h4, h5, h6, h7, h9, fun x hx => ?_⟩
  have := h8 x hx
  unfold LdOK Pl Wt at this
  simp only [Bool.and_eq_true, decide_eq_true_eq] at this
  omega
theorem Valid.own {a b o o' : Int} {l : List Ld} (h : Valid a b o l) (h0 : 1 ≤ o') (h1 : o' ≤ 99) : Valid a b o' l := ⟨h.a0, h.a1, h.b0, h.b1, h.ab, h0, h1, h.n, h.each⟩

/-- A bit of a number. -/
theorem bit_eq (x : Int) {i : Nat} (hi : i ≤ 60) : ∃ b : Bool, Go.bits .and .i64 (shr .i64 x (i : Int)) 1 = if b then 1 else 0 := by
  have h : Go.bits .and .i64 (shr .i64 x (i : Int)) 1 = 0 ∨ Go.bits .and .i64 (shr .i64 x (i : Int)) 1 = 1 := by
    unfold Go.bits
    simp only
    generalize BitVec.ofInt IntKind.i64.bits (shr .i64 x (i : Int)) = v
    have h1 : (v &&& BitVec.ofInt IntKind.i64.bits 1).toNat = v.toNat % 2 := by
      rw [BitVec.toNat_and]
      exact Nat.and_one_is_mod _
    rw [h1]
    have h2 : v.toNat % 2 = 0 ∨ v.toNat % 2 = 1 := by omega
    rcases h2 with h2 | h2 <;> rw [h2]
    · exact .inl rfl
    · exact .inr rfl
  rcases h with h | h
  · exact ⟨false, h⟩
  · exact ⟨true, h⟩

/-- The program's reserves are the reference's. -/
theorem res_l0 (a b o : Int) (l : List Ld) (h : Valid a b o l) (x : Int) : ∀ i, i ≤ l.length → ∀ u v : Int, ∃ r, Ev (fun k => spec_l10Reserve.l0 k l x u v (i : Int) a b o) r ∧ Ev (fun k => impl_Raft_reserve.l0 k x u v l (l.length : Int) (i : Int) a b o) r := by
  refine downTo l.length ?_ ?_
  · intro u v
    exact ⟨(u, v), Ev.step (fun k => by simp only [spec_l10Reserve.l0]; exact rfl) (ifn (by omega) (done rfl)), Ev.step (fun k => by simp only [impl_Raft_reserve.l0]; exact rfl) (ifn (by omega) (done rfl))⟩
  · intro i hi ih u v
    have hn := h.n
    obtain ⟨bit, hb⟩ := bit_eq x (i := i) (by omega)
    have hx := h.each l[i] (List.getElem_mem hi)
    have ha0 := h.a0; have ha1 := h.a1; have hb0 := h.b0; have hb1 := h.b1
    cases bit with
    | false =>
      obtain ⟨r, h1, h2⟩ := ih u v
      refine ⟨r, Ev.step (fun k => by simp only [spec_l10Reserve.l0]; exact rfl) (ifp (by omega) (ifp (by omega) (ifn (by rw [hb]; decide) ?_))), Ev.step (fun k => by simp only [impl_Raft_reserve.l0]; exact rfl) (ifp (by omega) (ifp (by omega) (ifp (by omega) (ifn (by rw [hb]; decide) ?_))))⟩
      · rw [wrapS hi (by omega)]; exact h1
      · rw [wrapS hi (by omega)]; exact h2
    | true =>
      obtain ⟨r, h1, h2⟩ := ih (wrap64 (u + (wrap64 ((wrap64 (2 * (l[i].f1))) * (wrap64 ((l[i].f0) - a)))))) (wrap64 (v + (wrap64 ((wrap64 (2 * (l[i].f1))) * (wrap64 (b - (l[i].f0)))))))
      refine ⟨r, Ev.step (fun k => by simp only [spec_l10Reserve.l0]; exact rfl) (ifp (by omega) (ifp (by omega) (ifp (by rw [hb]; rfl) ?_))), Ev.step (fun k => by simp only [impl_Raft_reserve.l0]; exact rfl) (ifp (by omega) (ifp (by omega) (ifp (by omega) (ifp (by rw [hb]; rfl) ?_))))⟩
      · rw [wrapS hi (by omega), rdL hi]; exact h1
      · rw [wrapS hi (by omega), rdL hi]
        have e : v - (wrap64 ((wrap64 (2 * (l[i].f1))) * (wrap64 ((l[i].f0) - b)))) = v + (wrap64 ((wrap64 (2 * (l[i].f1))) * (wrap64 (b - (l[i].f0))))) := by
          rw [w64 (x := 2 * l[i].f1) (by omega) (by omega), w64 (x := l[i].f0 - b) (by omega) (by omega), w64 (x := b - l[i].f0) (by omega) (by omega)]
          have hm : ∀ d : Int, -60 ≤ d → d ≤ 60 → -20000 ≤ 2 * l[i].f1 * d ∧ 2 * l[i].f1 * d ≤ 20000 := by
            intro d d0 d1
            have p1 : 0 ≤ (2 * l[i].f1) * (60 - d) := Int.mul_nonneg (by omega) (by omega)
            have p2 : 0 ≤ (2 * l[i].f1) * (60 + d) := Int.mul_nonneg (by omega) (by omega)
            rw [Int.mul_sub] at p1
            rw [Int.mul_add] at p2
            omega
          have m1 := hm (l[i].f0 - b) (by omega) (by omega)
          have m2 := hm (b - l[i].f0) (by omega) (by omega)
          rw [w64 (by omega) (by omega), w64 (by omega) (by omega), show l[i].f0 - b = -(b - l[i].f0) from by omega, Int.mul_neg]
          omega
        rw [e]; exact h2
theorem res_ev {a b o : Int} {l : List Ld} (h : Valid a b o l) (x : Int) : ∃ r, Ev (fun k => spec_l10Reserve.f k a b o l x) r ∧ Ev (fun k => impl_Raft_reserve.f k a b o l x) r := res_l0 a b o l h x 0 (Nat.zero_le _) _ _
theorem safe_ev {a b o : Int} {l : List Ld} (h : Valid a b o l) (x : Int) : ∃ r, Ev (fun k => spec_l10Safe.f k a b o l x) r ∧ Ev (fun k => impl_Raft_isSafe.f k a b o l x) r := by
  obtain ⟨r, h1, h2⟩ := res_ev h x
  unfold spec_l10Safe.f impl_Raft_isSafe.f
  by_cases hr : r.1 ≥ 0
  · exact ⟨decide (r.2 ≥ 0), Ev.bind h1 (ifp hr (done rfl)), Ev.bind h2 (ifp hr (done rfl))⟩
  · exact ⟨false, Ev.bind h1 (ifn hr (done rfl)), Ev.bind h2 (ifn hr (done rfl))⟩
end Go.Proofs.Ytkpdddlecibbnaa.PureRaft
