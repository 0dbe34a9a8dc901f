/- The numbers of safe ways of all sets, in the program and in the reference alike. No conditions beyond those of the lemmas' own hypotheses. -/
import Derived.Test.YtkpdddlecibbnaaRaft
import Derived.Test.YtkpdddlecibbnaaBits
import Derived.Test.YtkpdddlecibbnaaXAllx9
import Derived.Test.YtkpdddlecibbnaaXAllx11
namespace Go.Proofs.Ytkpdddlecibbnaa.PureWays
open Go.RowKit Go.Proofs.Ytkpdddlecibbnaa.XAll Go.Proofs.Ytkpdddlecibbnaa.Plain Go.Proofs.Ytkpdddlecibbnaa.Bits Go.Proofs.Ytkpdddlecibbnaa.PureRow Go.Proofs.Ytkpdddlecibbnaa.PureRaft Go.Proofs.YtkpdddlecibbnaaW.PrintWords Go.Proofs.YtkpdddlecibbnaaW.PrintLast Go.Proofs.YtkpdddlecibbnaaW.PrintMore
set_option linter.unusedVariables false

/-- What the inner loop adds up to is alike: for each table, and whatever follows. -/
def After (a b o : Int) (l : List Ld) (full : Int) (c : Nat) : Prop :=
  ∀ t : List Int, t.length = 2 ^ l.length → ∃ r : List Int, r.length = 2 ^ l.length ∧ Ev (fun k => spec_l10Ways.l0 k l full t ((c : Int) - 1) a b o) r ∧ Ev (fun k => impl_Raft_waysOf.l0 k l full t ((c : Int) - 1) a b o) r

theorem inner (a b o : Int) (l : List Ld) (h : Valid a b o l) (full : Int) (c : Nat) (hc : c < 2 ^ l.length) (hA : After a b o l full c) : ∀ i, i ≤ l.length → ∀ t : List Int, t.length = 2 ^ l.length →
    ∃ r : List Int, r.length = 2 ^ l.length ∧ Ev (fun k => spec_l10Ways.l1 k l full t (c : Int) (i : Int) a b o) r ∧ Ev (fun k => impl_Raft_waysOf.l1 k l full t (c : Int) (l.length : Int) (i : Int) a b o) r := by
  have hn := h.n
  have hp := pow62 (n := l.length) (by omega)
  refine downTo l.length ?_ ?_
  · intro t ht
    obtain ⟨r, hr, e1, e2⟩ := hA t ht
    refine ⟨r, hr, Ev.step (fun k => by simp only [spec_l10Ways.l1]; exact rfl) (ifn (by omega) ?_), Ev.step (fun k => by simp only [impl_Raft_waysOf.l1]; exact rfl) (ifn (by omega) ?_)⟩
    · rw [w64 (by omega) (by omega)]; exact e1
    · rw [w64 (by omega) (by omega)]; exact e2
  · intro i hi ih t ht
    have hb := bitN c (y := (i : Int)) (i := i) rfl (by omega) (by omega)
    have hs := shlN (y := (i : Int)) (n := i) rfl (by omega)
    have hpi := pow62 (n := i) (by omega)
    cases hbit : c.testBit i with
    | true =>
      rw [hbit] at hb
      obtain ⟨r, hr, e1, e2⟩ := ih t ht
      refine ⟨r, hr, Ev.step (fun k => by simp only [spec_l10Ways.l1]; exact rfl) (ifp (by omega) (ifp (by omega) (ifn (by rw [hb]; decide) ?_))), Ev.step (fun k => by simp only [impl_Raft_waysOf.l1]; exact rfl) (ifp (by omega) (ifp (by omega) (ifn (by rw [hb]; decide) ?_)))⟩
      · rw [wrapS hi (by omega)]; exact e1
      · rw [wrapS hi (by omega)]; exact e2
    | false =>
      rw [hbit] at hb
      have hlt := lt_of_bit hc hi hbit
      have e0' : Go.bits .or .i64 (c : Int) ((2 ^ i : Nat) : Int) = ((c + 2 ^ i : Nat) : Int) := by rw [orN _ _ (by omega) (by omega), or_add c i hbit]
      generalize 2 ^ i = Q at hs hpi hlt e0'
      generalize hL : 2 ^ l.length = M at hlt ht hp hc hA ih ⊢
      have e0 : wrap64 ((c : Int) + (Q : Int)) = ((c + Q : Nat) : Int) := by rw [w64 (by omega) (by omega)]; omega
      obtain ⟨r, hr, e1, e2⟩ := ih (t.set (c : Int).toNat (wrap64 ((rd t (c : Int)) + (rd t ((c + Q : Nat) : Int))))) (by rw [List.length_set]; exact ht)
      refine ⟨r, hr, Ev.step (fun k => by simp only [spec_l10Ways.l1]; exact rfl) (ifp (by omega) (ifp (by omega) (ifp (by rw [hb]; rfl) (ifp (by omega) (ifp (by omega) ?_))))), Ev.step (fun k => by simp only [impl_Raft_waysOf.l1]; exact rfl) (ifp (by omega) (ifp (by omega) (ifp (by rw [hb]; rfl) (ifp (by omega) (ifp (by omega) ?_)))))⟩
      · rw [hs, e0]
        clear e0 e0' hs hb
        refine ifp (by omega) (ifp (by omega) ?_)
        rw [wrapS hi (by omega)]; exact e1
      · rw [hs, e0']
        clear e0 e0' hs hb
        refine ifp (by omega) (ifp (by omega) ?_)
        rw [wrapS hi (by omega)]; exact e2

theorem outer (a b o : Int) (l : List Ld) (h : Valid a b o l) : ∀ c : Nat, c ≤ 2 ^ l.length → After a b o l ((2 ^ l.length : Nat) - 1 : Int) c := by
  have hn := h.n
  have hp := pow62 (n := l.length) (by omega)
  intro c
  induction c with
  | zero =>
    intro _ t ht
    exact ⟨t, ht, Ev.step (fun k => by simp only [spec_l10Ways.l0]; exact rfl) (ifn (by omega) (done rfl)), Ev.step (fun k => by simp only [impl_Raft_waysOf.l0]; exact rfl) (ifn (by omega) (done rfl))⟩
  | succ c ih =>
    intro hc t ht
    have hA := ih (by omega)
    obtain ⟨s, s1, s2⟩ := safe_ev h (c : Int)
    rw [show ((c + 1 : Nat) : Int) - 1 = (c : Int) from by omega]
    cases s with
    | false =>
      obtain ⟨r, hr, e1, e2⟩ := hA t ht
      refine ⟨r, hr, Ev.step (fun k => by simp only [spec_l10Ways.l0]; exact rfl) (ifp (by omega) (Ev.bind s1 (ifn Bool.false_ne_true ?_))), Ev.step (fun k => by simp only [impl_Raft_waysOf.l0]; exact rfl) (ifp (by omega) (Ev.bind s2 (ifn Bool.false_ne_true ?_)))⟩
      · rw [w64 (by omega) (by omega)]; exact e1
      · rw [w64 (by omega) (by omega)]; exact e2
    | true =>
      by_cases hf : (c : Int) = ((2 ^ l.length : Nat) - 1 : Int)
      · -- all items: the reference's inner loop adds nothing
        have key : ∀ i, i ≤ l.length → ∀ t : List Int, t.length = 2 ^ l.length → ∃ r : List Int, r.length = 2 ^ l.length ∧ Ev (fun k => spec_l10Ways.l1 k l ((2 ^ l.length : Nat) - 1 : Int) t (c : Int) (i : Int) a b o) r ∧ Ev (fun k => impl_Raft_waysOf.l0 k l ((2 ^ l.length : Nat) - 1 : Int) t ((c : Int) - 1) a b o) r := by
          refine downTo l.length ?_ ?_
          · intro t ht
            obtain ⟨r, hr, e1, e2⟩ := hA t ht
            refine ⟨r, hr, Ev.step (fun k => by simp only [spec_l10Ways.l1]; exact rfl) (ifn (by omega) ?_), e2⟩
            rw [w64 (by omega) (by omega)]; exact e1
          · intro i hi ih2 t ht
            obtain ⟨r, hr, e1, e2⟩ := ih2 t ht
            have hb := bitN c (y := (i : Int)) (i := i) rfl (by omega) (by omega)
            have hcf : c = 2 ^ l.length - 1 := by omega
            rw [show c.testBit i = true from by rw [hcf]; exact full_bit hi] at hb
            refine ⟨r, hr, Ev.step (fun k => by simp only [spec_l10Ways.l1]; exact rfl) (ifp (by omega) (ifp (by omega) (ifn (by rw [hb]; decide) ?_))), e2⟩
            rw [wrapS hi (by omega)]; exact e1
        obtain ⟨r, hr, e1, e2⟩ := key 0 (Nat.zero_le _) (t.set (c : Int).toNat 1) (by rw [List.length_set]; exact ht)
        refine ⟨r, hr, Ev.step (fun k => by simp only [spec_l10Ways.l0]; exact rfl) ?_, Ev.step (fun k => by simp only [impl_Raft_waysOf.l0]; exact rfl) ?_⟩
        · refine ifp (by omega) (Ev.bind s1 (ifp rfl (ifp hf (ifp (by omega) (ifp (by omega) ?_)))))
          exact Ev.step (fun k => by simp only [spec_l10Ways.j1]; exact rfl) e1
        · refine ifp (by omega) (Ev.bind s2 (ifp rfl (ifp hf (ifp (by omega) (ifp (by omega) ?_)))))
          rw [w64 (by omega) (by omega)]; exact e2
      · obtain ⟨r, hr, e1, e2⟩ := inner a b o l h _ c (by omega) hA 0 (Nat.zero_le _) t ht
        refine ⟨r, hr, Ev.step (fun k => by simp only [spec_l10Ways.l0]; exact rfl) (ifp (by omega) (Ev.bind s1 (ifp rfl (ifn hf ?_)))), Ev.step (fun k => by simp only [impl_Raft_waysOf.l0]; exact rfl) (ifp (by omega) (Ev.bind s2 (ifp rfl (ifn hf ?_))))⟩
        · exact Ev.step (fun k => by simp only [spec_l10Ways.j1]; exact rfl) e1
        · exact e2
theorem ways_ev {a b o : Int} {l : List Ld} (h : Valid a b o l) : ∃ r : List Int, r.length = 2 ^ l.length ∧ Ev (fun k => spec_l10Ways.f k a b o l) r ∧ Ev (fun k => impl_Raft_waysOf.f k a b o l) r := by
  have hn := h.n
  have hp8 : 2 ^ l.length ≤ 2 ^ 8 := Nat.pow_le_pow_right (by decide) hn
  rw [show (2 : Nat) ^ 8 = 256 from by decide] at hp8
  have hpos := Nat.two_pow_pos l.length
  have hs := shlN (y := (l.length : Int)) (n := l.length) rfl (by omega)
  have e1 : wrap64 (((2 ^ l.length : Nat) : Int) - 1) = ((2 ^ l.length : Nat) : Int) - 1 := w64 (by omega) (by omega)
  have e2 : wrap64 (((2 ^ l.length : Nat) : Int) - 1 + 1) = ((2 ^ l.length : Nat) : Int) := by rw [w64 (by omega) (by omega)]; omega
  obtain ⟨r, hr, h1, h2⟩ := outer a b o l h (2 ^ l.length) (Nat.le_refl _) (List.replicate (2 ^ l.length) 0) (by simp)
  refine ⟨r, hr, ?_, ?_⟩
  · unfold spec_l10Ways.f
    rw [hs, e1, e2, Int.toNat_natCast]
    exact ifp (by omega) (ifp (by omega) h1)
  · unfold impl_Raft_waysOf.f
    rw [hs, e1, e2, Int.toNat_natCast]
    exact ifp (by omega) (ifp (by omega) h2)
end Go.Proofs.Ytkpdddlecibbnaa.PureWays
