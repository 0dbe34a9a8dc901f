/- The plain law of FnExactPairSteps: the program's least number of steps is the reference's. No conditions. -/
import Derived.Test.YtkpdddlecibbnaaStatFnExactPairSteps
import Derived.Test.YtkpdddlecibbnaaRaft
import Derived.Test.YtkpdddlecibbnaaBits
namespace Go.Proofs.Ytkpdddlecibbnaa.fnExactPairSteps
open Go.RowKit Go.Proofs.Ytkpdddlecibbnaa.XAll Go.Proofs.Ytkpdddlecibbnaa.Plain Go.Proofs.Ytkpdddlecibbnaa.Bits Go.Proofs.Ytkpdddlecibbnaa.PureRow Go.Proofs.Ytkpdddlecibbnaa.PureRaft Go.Proofs.YtkpdddlecibbnaaW.PrintWords Go.Proofs.YtkpdddlecibbnaaW.PrintLast Go.Proofs.YtkpdddlecibbnaaW.PrintMore
set_option linter.unusedVariables false

def pr (i k : Nat) : Nat := 2 ^ i ||| 2 ^ k
def factB (c i k : Nat) : Bool :=
  if c.testBit i && c.testBit k then (c &&& pr i k) == pr i k && (decide (pr i k ≤ c) && Go.bits .andNot .i64 (c : Int) ((pr i k : Nat) : Int) == ((c - pr i k : Nat) : Int)) else !((c &&& pr i k) == pr i k)
def allB : Bool := (List.range 256).all fun c => (List.range 8).all fun i => (List.range 8).all fun k => factB c i k
set_option maxRecDepth 100000 in
theorem allB_true : allB = true := by decide +kernel
theorem fact (c i k : Nat) (hc : c < 256) (hi : i < 8) (hk : k < 8) : factB c i k = true := by
  have h := allB_true
  unfold allB at h
  have h1 := List.all_eq_true.1 h c (List.mem_range.2 hc)
  have h2 := List.all_eq_true.1 h1 i (List.mem_range.2 hi)
  exact List.all_eq_true.1 h2 k (List.mem_range.2 hk)
theorem fact_yes {c i k : Nat} (hc : c < 256) (hi : i < 8) (hk : k < 8) (b1 : c.testBit i = true) (b2 : c.testBit k = true) : (c &&& pr i k) = pr i k ∧ pr i k ≤ c ∧ Go.bits .andNot .i64 (c : Int) ((pr i k : Nat) : Int) = ((c - pr i k : Nat) : Int) := by
  have h := fact c i k hc hi hk
  unfold factB at h
  rw [b1, b2] at h
  simpa using h
theorem fact_no {c i k : Nat} (hc : c < 256) (hi : i < 8) (hk : k < 8) (b : (c.testBit i && c.testBit k) = false) : ¬ (c &&& pr i k) = pr i k := by
  have h := fact c i k hc hi hk
  unfold factB at h
  rw [b] at h
  simpa using h
theorem pr_le {i k : Nat} (hi : i < 8) (hk : k < 8) : pr i k ≤ 255 := by
  have : pr i k < 2 ^ 8 := Nat.or_lt_two_pow (Nat.pow_lt_pow_right (by decide) hi) (Nat.pow_lt_pow_right (by decide) hk)
  rw [show (2 : Nat) ^ 8 = 256 from by decide] at this
  omega
theorem pair_eq {i k : Nat} (hi : i < 8) (hk : k < 8) : Go.bits .or .i64 (shl .i64 1 (i : Int)) (shl .i64 1 (k : Int)) = ((pr i k : Nat) : Int) := by
  rw [shlN (y := (i : Int)) (n := i) rfl (by omega), shlN (y := (k : Int)) (n := k) rfl (by omega), orN _ _ (pow62 (by omega)) (pow62 (by omega))]
  rfl
theorem and_eq {c i k : Nat} (hc : c < 256) (hi : i < 8) (hk : k < 8) : Go.bits .and .i64 (c : Int) ((pr i k : Nat) : Int) = ((c &&& pr i k : Nat) : Int) := by
  have := pr_le hi hk
  exact andN _ _ (by omega) (by omega)
theorem sub_eq {c p : Nat} (hc : c < 256) (hp : p ≤ c) : wrap64 ((c : Int) - (p : Int)) = ((c - p : Nat) : Int) := by
  rw [w64 (by omega) (by omega)]; omega

def Then1 (a b o : Int) (l : List Ld) (M : Nat) (c i : Nat) : Prop :=
  ∀ t : List Int, t.length = M → ∃ r, Ev (fun k => spec_PairSteps.l1 k l (l.length : Int) t (c : Int) (i : Int) a b o) r ∧ Ev (fun k => impl_PairSteps.l1 k l ((M : Int) - 1) t (c : Int) (l.length : Int) (i : Int) a b o) r
theorem inner2 (a b o : Int) (l : List Ld) (M : Nat) (hM : M ≤ 256) (c i : Nat) (hc : c < M) (hi : i < l.length) (hn : l.length ≤ 8) (hA : Then1 a b o l M c (i + 1)) : ∀ k, k ≤ i + 1 → ∀ t : List Int, t.length = M →
    ∃ r, Ev (fun q => spec_PairSteps.l2 q l (l.length : Int) t (c : Int) (i : Int) (k : Int) a b o) r ∧ Ev (fun q => impl_PairSteps.l2 q l ((M : Int) - 1) t (c : Int) (i : Int) (l.length : Int) (i : Int) (((i + 1 : Nat)) : Int) (k : Int) a b o) r := by
  refine downTo (i + 1) ?_ ?_
  · intro t ht
    obtain ⟨r, e1, e2⟩ := hA t ht
    refine ⟨r, Ev.step (fun k => by simp only [spec_PairSteps.l2]; exact rfl) ?_, Ev.step (fun k => by simp only [impl_PairSteps.l2]; exact rfl) ?_⟩
    · refine ifn (by omega) ?_
      rw [wrapS hi (by omega)]; exact e1
    · refine ifn (by omega) ?_
      rw [wrapS hi (by omega)]; exact e2
  · intro k hk ih t ht
    have hi8 : i < 8 := by omega
    have hk8 : k < 8 := by omega
    have hc8 : c < 256 := by omega
    have skip : ∀ t : List Int, t.length = M → ∃ r, Ev (fun q => spec_PairSteps.l2 q l (l.length : Int) t (c : Int) (i : Int) (wrap64 ((k : Int) + 1)) a b o) r ∧ Ev (fun q => impl_PairSteps.l2 q l ((M : Int) - 1) t (c : Int) (i : Int) (l.length : Int) (i : Int) (((i + 1 : Nat)) : Int) (wrap64 ((k : Int) + 1)) a b o) r := by
      rw [wrapS hk (by omega)]; exact ih
    have b1 := bitN c (y := (i : Int)) (i := i) rfl (by omega) (by omega)
    have b2 := bitN c (y := (k : Int)) (i := k) rfl (by omega) (by omega)
    cases hbi : c.testBit i with
    | false =>
      obtain ⟨r, e1, e2⟩ := skip t ht
      have hno := fact_no hc8 hi8 hk8 (by rw [hbi]; rfl)
      refine ⟨r, Ev.step (fun k => by simp only [spec_PairSteps.l2]; exact rfl) ?_, Ev.step (fun k => by simp only [impl_PairSteps.l2]; exact rfl) ?_⟩
      · rw [pair_eq hi8 hk8, and_eq hc8 hi8 hk8]
        clear b1 b2
        refine ifp (by omega) (ifp (by omega) (ifp (by omega) (ifn (by omega) ?_)))
        exact Ev.step (fun k => by simp only [spec_PairSteps.j4]; exact rfl) (ifp (Eq.refl true) e1)
      · rw [b1, hbi]
        clear b1 b2
        refine ifp (by omega) (ifp (by omega) (ifp (by decide) ?_))
        exact Ev.step (fun k => by simp only [impl_PairSteps.j3]; exact rfl) (ifp (Eq.refl true) e2)
    | true =>
      cases hbk : c.testBit k with
      | false =>
        obtain ⟨r, e1, e2⟩ := skip t ht
        have hno := fact_no hc8 hi8 hk8 (by rw [hbi, hbk]; rfl)
        refine ⟨r, Ev.step (fun k => by simp only [spec_PairSteps.l2]; exact rfl) ?_, Ev.step (fun k => by simp only [impl_PairSteps.l2]; exact rfl) ?_⟩
        · rw [pair_eq hi8 hk8, and_eq hc8 hi8 hk8]
          clear b1 b2
          refine ifp (by omega) (ifp (by omega) (ifp (by omega) (ifn (by omega) ?_)))
          exact Ev.step (fun k => by simp only [spec_PairSteps.j4]; exact rfl) (ifp (Eq.refl true) e1)
        · rw [b1, hbi, b2, hbk]
          clear b1 b2
          refine ifp (by omega) (ifp (by omega) (ifn (by decide) (ifp (by omega) ?_)))
          exact Ev.step (fun k => by simp only [impl_PairSteps.j3]; exact rfl) (ifp (by decide) e2)
      | true =>
        obtain ⟨y1, y2, y3⟩ := fact_yes hc8 hi8 hk8 hbi hbk
        have hs : wrap64 ((c : Int) - ((pr i k : Nat) : Int)) = ((c - pr i k : Nat) : Int) := sub_eq hc8 y2
        have hpe := pair_eq hi8 hk8
        -- what both do with the number of steps before
        have go : ∃ r, Ev (fun q => spec_PairSteps.j4 q l (l.length : Int) t (c : Int) (i : Int) (k : Int) ((pr i k : Nat) : Int) (decide ((rd t ((c - pr i k : Nat) : Int)) < 0)) a b o) r ∧ Ev (fun q => impl_PairSteps.j3 q l ((M : Int) - 1) t (c : Int) (i : Int) (k : Int) (l.length : Int) (i : Int) (((i + 1 : Nat)) : Int) (k : Int) false a b o) r := by
          have hidx : 0 ≤ ((c - pr i k : Nat) : Int) := by omega
          have hlt : ((c - pr i k : Nat) : Int) < (t.length : Int) := by omega
          have hct0 : 0 ≤ (c : Int) := by omega
          have hct : (c : Int) < (t.length : Int) := by omega
          have hi0 : 0 ≤ (i : Int) := by omega
          have hk0 : 0 ≤ (k : Int) := by omega
          by_cases hneg : rd t ((c - pr i k : Nat) : Int) < 0
          · obtain ⟨r, e1, e2⟩ := skip t ht
            refine ⟨r, Ev.step (fun k => by simp only [spec_PairSteps.j4]; exact rfl) (ifp (by simpa using hneg) e1), Ev.step (fun k => by simp only [impl_PairSteps.j3]; exact rfl) ?_⟩
            rw [hpe, y3]
            exact ifn Bool.false_ne_true (ifp hi0 (ifp hk0 (ifp hidx (ifp hlt (ifn (by omega) e2)))))
          · have upd : ∃ r, Ev (fun q => spec_PairSteps.l2 q l (l.length : Int) (t.set (c : Int).toNat (wrap64 (rd t ((c - pr i k : Nat) : Int) + 1))) (c : Int) (i : Int) (wrap64 ((k : Int) + 1)) a b o) r ∧ Ev (fun q => impl_PairSteps.l2 q l ((M : Int) - 1) (t.set (c : Int).toNat (wrap64 (rd t ((c - pr i k : Nat) : Int) + 1))) (c : Int) (i : Int) (l.length : Int) (i : Int) (((i + 1 : Nat)) : Int) (wrap64 ((k : Int) + 1)) a b o) r := skip _ (by rw [List.length_set]; exact ht)
            have h0 : rd t ((c - pr i k : Nat) : Int) ≥ 0 := by omega
            by_cases hfirst : rd t (c : Int) < 0
            · obtain ⟨r, e1, e2⟩ := upd
              refine ⟨r, Ev.step (fun k => by simp only [spec_PairSteps.j4]; exact rfl) ?_, Ev.step (fun k => by simp only [impl_PairSteps.j3]; exact rfl) ?_⟩
              · rw [hs]
                exact ifn (by simpa using hneg) (ifp hct0 (ifp hct (ifp hfirst (ifp hidx (ifp hlt e1)))))
              · rw [hpe, y3]
                exact ifn Bool.false_ne_true (ifp hi0 (ifp hk0 (ifp hidx (ifp hlt (ifp h0 (ifp hct0 (ifp hct (ifp hfirst e2))))))))
            · by_cases hless : wrap64 (rd t ((c - pr i k : Nat) : Int) + 1) < rd t (c : Int)
              · obtain ⟨r, e1, e2⟩ := upd
                refine ⟨r, Ev.step (fun k => by simp only [spec_PairSteps.j4]; exact rfl) ?_, Ev.step (fun k => by simp only [impl_PairSteps.j3]; exact rfl) ?_⟩
                · rw [hs]
                  exact ifn (by simpa using hneg) (ifp hct0 (ifp hct (ifn hfirst (ifp hidx (ifp hlt (ifp hless e1))))))
                · rw [hpe, y3]
                  exact ifn Bool.false_ne_true (ifp hi0 (ifp hk0 (ifp hidx (ifp hlt (ifp h0 (ifp hct0 (ifp hct (ifn hfirst (ifp hless e2)))))))))
              · obtain ⟨r, e1, e2⟩ := skip t ht
                refine ⟨r, Ev.step (fun k => by simp only [spec_PairSteps.j4]; exact rfl) ?_, Ev.step (fun k => by simp only [impl_PairSteps.j3]; exact rfl) ?_⟩
                · rw [hs]
                  exact ifn (by simpa using hneg) (ifp hct0 (ifp hct (ifn hfirst (ifp hidx (ifp hlt (ifn hless e1))))))
                · rw [hpe, y3]
                  exact ifn Bool.false_ne_true (ifp hi0 (ifp hk0 (ifp hidx (ifp hlt (ifp h0 (ifp hct0 (ifp hct (ifn hfirst (ifn hless e2)))))))))
        obtain ⟨r, e1, e2⟩ := go
        refine ⟨r, Ev.step (fun k => by simp only [spec_PairSteps.l2]; exact rfl) ?_, Ev.step (fun k => by simp only [impl_PairSteps.l2]; exact rfl) ?_⟩
        · rw [hpe, and_eq hc8 hi8 hk8, hs]
          clear b1 b2 hpe y3 hs
          exact ifp (by omega) (ifp (by omega) (ifp (by omega) (ifp (by omega) (ifp (by omega) (ifp (by omega) e1)))))
        · rw [b1, hbi, b2, hbk]
          clear b1 b2 hpe y3 hs
          exact ifp (by omega) (ifp (by omega) (ifn (by decide) (ifp (by omega) e2)))

def Then0 (a b o : Int) (l : List Ld) (M : Nat) (c : Nat) : Prop :=
  ∀ t : List Int, t.length = M → ∃ r, Ev (fun k => spec_PairSteps.l0 k l (l.length : Int) t (c : Int) a b o) r ∧ Ev (fun k => impl_PairSteps.l0 k l ((M : Int) - 1) t (c : Int) a b o) r
theorem inner1 (a b o : Int) (l : List Ld) (M : Nat) (hM : M ≤ 256) (c : Nat) (hc : c < M) (hn : l.length ≤ 8) (s1 : Ev (fun k => spec_l10Safe.f k a b o l (c : Int)) true) (hA : Then0 a b o l M (c + 1)) : ∀ i, i ≤ l.length → Then1 a b o l M c i := by
  refine downTo l.length ?_ ?_
  · intro t ht
    obtain ⟨r, e1, e2⟩ := hA t ht
    refine ⟨r, Ev.step (fun k => by simp only [spec_PairSteps.l1]; exact rfl) ?_, Ev.step (fun k => by simp only [impl_PairSteps.l1]; exact rfl) ?_⟩
    · refine ifn (by omega) (Ev.step (fun k => by simp only [spec_PairSteps.j2]; exact rfl) (ifn Bool.false_ne_true ?_))
      rw [wrapS hc (by omega)]; exact e1
    · refine ifn (by omega) ?_
      rw [wrapS hc (by omega)]; exact e2
  · intro i hi ih t ht
    obtain ⟨r, e1, e2⟩ := inner2 a b o l M hM c i hc hi hn ih 0 (Nat.zero_le _) t ht
    refine ⟨r, Ev.step (fun k => by simp only [spec_PairSteps.l1]; exact rfl) ?_, Ev.step (fun k => by simp only [impl_PairSteps.l1]; exact rfl) ?_⟩
    · refine ifp (by omega) (Ev.bind s1 ?_)
      exact Ev.step (fun k => by simp only [spec_PairSteps.j2]; exact rfl) (ifp (Eq.refl true) e1)
    · refine ifp (by omega) ?_
      rw [wrapS hi (by omega)]; exact e2
theorem outer (a b o : Int) (l : List Ld) (h : Valid a b o l) (M : Nat) (hM : M ≤ 256) (hM1 : 1 ≤ M) : ∀ c, c ≤ M → Then0 a b o l M c := by
  have hn := h.n
  refine downTo M ?_ ?_
  · intro t ht
    have hw : wrap64 ((t.length : Int) - 1) = (M : Int) - 1 := by rw [w64 (by omega) (by omega)]; omega
    have h0 : 0 ≤ (M : Int) - 1 := by omega
    have h1 : (M : Int) - 1 < (t.length : Int) := by omega
    by_cases hneg : rd t ((M : Int) - 1) < 0
    · refine ⟨(0, false), Ev.step (fun k => by simp only [spec_PairSteps.l0]; exact rfl) ?_, Ev.step (fun k => by simp only [impl_PairSteps.l0]; exact rfl) ?_⟩
      · rw [hw]
        refine ifn (by omega) (ifp h0 (ifp h1 (somb (a := 0) ?_ (done ?_))))
        · unfold spec_l1Most.f; rw [if_neg (by omega)]
        · simp only [Prod.mk.injEq, true_and, decide_eq_false_iff_not]; omega
      · exact ifn (by omega) (ifp h0 (ifp h1 (ifp hneg (done rfl))))
    · refine ⟨(rd t ((M : Int) - 1), true), Ev.step (fun k => by simp only [spec_PairSteps.l0]; exact rfl) ?_, Ev.step (fun k => by simp only [impl_PairSteps.l0]; exact rfl) ?_⟩
      · rw [hw]
        refine ifn (by omega) (ifp h0 (ifp h1 (somb (a := rd t ((M : Int) - 1)) ?_ (done ?_))))
        · unfold spec_l1Most.f
          by_cases hp : rd t ((M : Int) - 1) > 0
          · rw [if_pos hp]
          · rw [if_neg hp]; congr 1; omega
        · simp only [Prod.mk.injEq, true_and, decide_eq_true_eq]; omega
      · exact ifn (by omega) (ifp h0 (ifp h1 (ifn hneg (done rfl))))
  · intro c hc ih t ht
    obtain ⟨s, s1, s2⟩ := safe_ev h (c : Int)
    have hl : (t.set (c : Int).toNat (-1)).length = M := by rw [List.length_set]; exact ht
    cases s with
    | true =>
      obtain ⟨r, e1, e2⟩ := inner1 a b o l M hM c hc hn s1 ih 0 (Nat.zero_le _) _ hl
      refine ⟨r, Ev.step (fun k => by simp only [spec_PairSteps.l0]; exact rfl) ?_, Ev.step (fun k => by simp only [impl_PairSteps.l0]; exact rfl) ?_⟩
      · exact ifp (by omega) (ifp (by omega) e1)
      · exact ifp (by omega) (ifp (by omega) (ifp (by omega) (somb rfl (Ev.bind s2 (ifp (Eq.refl true) e2)))))
    | false =>
      obtain ⟨r, e1, e2⟩ := ih _ hl
      refine ⟨r, Ev.step (fun k => by simp only [spec_PairSteps.l0]; exact rfl) ?_, Ev.step (fun k => by simp only [impl_PairSteps.l0]; exact rfl) ?_⟩
      · refine ifp (by omega) (ifp (by omega) (Ev.step (fun k => by simp only [spec_PairSteps.l1]; exact rfl) ?_))
        refine ifc (fun _ => Ev.bind s1 ?_) (fun _ => ?_)
        · refine Ev.step (fun k => by simp only [spec_PairSteps.j2]; exact rfl) (ifn Bool.false_ne_true ?_)
          rw [wrapS hc (by omega)]; exact e1
        · refine Ev.step (fun k => by simp only [spec_PairSteps.j2]; exact rfl) (ifn Bool.false_ne_true ?_)
          rw [wrapS hc (by omega)]; exact e1
      · refine ifp (by omega) (ifp (by omega) (ifp (by omega) (somb rfl (Ev.bind s2 (ifn Bool.false_ne_true ?_)))))
        rw [wrapS hc (by omega)]; exact e2
theorem both (a b o : Int) (l : List Ld) (hn : l.length ≤ 140737488355328) : ∃ r, Ev (fun k => spec_PairSteps.f k a b o l) r ∧ Ev (fun k => impl_PairSteps.f k a b o l) r := by
  have h1 := l10Cargo_ev a b o l hn
  have h2 := areCargo_ev a b o l hn
  unfold spec_PairSteps.f impl_PairSteps.f
  cases hc : CargoOK a b o l with
  | false =>
    rw [hc] at h1 h2
    exact ⟨(0, false), Ev.bind h1 (ifn (by decide) (done rfl)), Ev.bind h2 (ifn (by decide) (done rfl))⟩
  | true =>
    rw [hc] at h1 h2
    have hv := valid_of hc
    have hn8 := hv.n
    have hs := shlN (y := (l.length : Int)) (n := l.length) rfl (by omega)
    have hp8 : 2 ^ l.length ≤ 2 ^ 8 := Nat.pow_le_pow_right (by decide) hn8
    rw [show (2 : Nat) ^ 8 = 256 from by decide] at hp8
    have hpos := Nat.two_pow_pos l.length
    rw [hs]
    clear hs
    generalize 2 ^ l.length = M at *
    have e1 : wrap64 ((M : Int) - 1) = (M : Int) - 1 := w64 (by omega) (by omega)
    have e2 : wrap64 ((M : Int) - 1 + 1) = (M : Int) := by rw [w64 (by omega) (by omega)]; omega
    rw [e1, e2, Int.toNat_natCast]
    obtain ⟨r, f1, f2⟩ := outer a b o l hv M hp8 hpos 1 (by omega) (List.replicate M 0) (by simp)
    exact ⟨r, Ev.bind h1 (ifp (Eq.refl true) (ifp (by omega) (ifp (by omega) f1))), Ev.bind h2 (ifp (Eq.refl true) (ifp (by omega) (ifp (by omega) f2)))⟩
theorem pure : Pure := by
  intro a b o l _ _ _ hl _
  obtain ⟨t, ht, hlen⟩ := szLoadS_eq l hl
  refine Ev.rounds ?_
  unfold laws_FnExactPairSteps.f
  refine somb ht (ifc (fun _ => done rfl) fun hneg => ?_)
  have hm := hlen hneg
  have hto := toLoadS_ev l (by omega)
  have hcl : (l.map cv).length ≤ 140737488355328 := by rw [List.length_map]; omega
  obtain ⟨r, e1, e2⟩ := both a b o (l.map cv) hcl
  refine somb (a := (a, b, o)) rfl (Ev.bind hto (Ev.bind e1 (Ev.bind hto (somb (a := (a, b, o)) rfl (Ev.bind e2 (ifp rfl ?_))))))
  refine Ev.step (fun k => by simp only [laws_FnExactPairSteps.j0]; exact rfl) (ifn (by simp) (Ev.bind hto (Ev.bind (eqLoadS_ev _ hcl) (ifp rfl (done rfl)))))
end Go.Proofs.Ytkpdddlecibbnaa.fnExactPairSteps
