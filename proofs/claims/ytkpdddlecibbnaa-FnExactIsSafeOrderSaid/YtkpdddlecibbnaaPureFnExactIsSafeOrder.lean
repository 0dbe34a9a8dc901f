/- The plain law of FnExactIsSafeOrder: the program tells orders, and safe ones among them, as the reference does. No conditions. -/
import Derived.Test.YtkpdddlecibbnaaStatFnExactIsSafeOrder
import Derived.Test.YtkpdddlecibbnaaSets
namespace Go.Proofs.Ytkpdddlecibbnaa.fnExactIsSafeOrder
open Go.RowKit Go.Proofs.Ytkpdddlecibbnaa.XAll Go.Proofs.Ytkpdddlecibbnaa.Plain Go.Proofs.Ytkpdddlecibbnaa.Bits Go.Proofs.Ytkpdddlecibbnaa.PureRow Go.Proofs.Ytkpdddlecibbnaa.PureRaft Go.Proofs.Ytkpdddlecibbnaa.PureInts Go.Proofs.Ytkpdddlecibbnaa.PureSets Go.Proofs.YtkpdddlecibbnaaW.PrintWords Go.Proofs.YtkpdddlecibbnaaW.PrintLast Go.Proofs.YtkpdddlecibbnaaW.PrintMore
set_option linter.unusedVariables false

/-! ### lists of numbers below n -/
theorem cover_perm : ∀ (n : Nat) (l : List Int), (∀ i : Nat, i < n → (i : Int) ∈ l) → l.length ≤ n → l.Nodup ∧ ∀ x ∈ l, 0 ≤ x ∧ x < n := by
  intro n
  induction n with
  | zero =>
    intro l _ hl
    have : l = [] := List.eq_nil_of_length_eq_zero (by omega)
    subst this
    exact ⟨List.nodup_nil, fun x hx => by simp at hx⟩
  | succ n ih =>
    intro l hc hl
    have hn : (n : Int) ∈ l := hc n (by omega)
    have hlen : (l.erase (n : Int)).length = l.length - 1 := List.length_erase_of_mem hn
    obtain ⟨hd, hr⟩ := ih (l.erase (n : Int)) (fun i hi => (List.mem_erase_of_ne (by omega)).2 (hc i (by omega))) (by omega)
    have hp : l.Perm ((n : Int) :: l.erase (n : Int)) := List.perm_cons_erase hn
    refine ⟨hp.nodup_iff.2 (List.nodup_cons.2 ⟨fun h => ?_, hd⟩), fun x hx => ?_⟩
    · have := hr _ h; omega
    · rcases List.mem_cons.1 (hp.mem_iff.1 hx) with rfl | h
      · omega
      · have := hr x h; omega
theorem nodup_short : ∀ (n : Nat) (l : List Int), l.Nodup → (∀ x ∈ l, 0 ≤ x ∧ x < n) → l.length ≤ n := by
  intro n
  induction n with
  | zero =>
    intro l _ hr
    cases l with
    | nil => exact Nat.le_refl _
    | cons x r => have := hr x (List.mem_cons_self ..); omega
  | succ n ih =>
    intro l hd hr
    have h1 := ih (l.erase (n : Int)) (hd.erase _) (fun x hx => by
      have h := hr x (List.mem_of_mem_erase hx)
      have hne : x ≠ (n : Int) := fun e => by
        subst e
        exact (hd.not_mem_erase) hx
      omega)
    by_cases hn : (n : Int) ∈ l
    · have : (l.erase (n : Int)).length = l.length - 1 := List.length_erase_of_mem hn
      omega
    · rw [List.erase_of_not_mem hn] at h1
      omega
theorem nodup_cover (n : Nat) (l : List Int) (hd : l.Nodup) (hr : ∀ x ∈ l, 0 ≤ x ∧ x < n) (hl : l.length = n) (i : Nat) (hi : i < n) : (i : Int) ∈ l := by
  refine Decidable.byContradiction fun hn => ?_
  have h2 := nodup_short n ((i : Int) :: l) (List.nodup_cons.2 ⟨hn, hd⟩) (fun x hx => by
    rcases List.mem_cons.1 hx with rfl | h
    · omega
    · exact hr x h)
  simp only [List.length_cons] at h2
  omega

/-! ### the reference's look for each item -/
theorem has_l0 (l : List Int) (hn : l.length ≤ 140737488355328) (x : Int) : ∀ i, i ≤ l.length → Ev (fun k => spec_l1Has.l0 k l x (i : Int)) (decide (x ∈ l.drop i)) := by
  refine downTo l.length ?_ ?_
  · exact Ev.step (fun k => by simp only [spec_l1Has.l0]; exact rfl) (ifn (by omega) (done (by simp)))
  · intro i hi ih
    refine Ev.step (fun k => by simp only [spec_l1Has.l0]; exact rfl) (ifp (by omega) (ifp (by omega) ?_))
    rw [rd_lt hi, wrapS hi hn, drop_cons hi]
    by_cases he : l[i] = x
    · exact ifp he (done (by simp [he]))
    · refine ifn he ?_
      rw [show decide (x ∈ l[i] :: l.drop (i + 1)) = decide (x ∈ l.drop (i + 1)) from by
        rw [decide_eq_decide, List.mem_cons]
        exact ⟨fun h => h.resolve_left (fun e => he e.symm), .inr⟩]
      exact ih
theorem has_ev (l : List Int) (hn : l.length ≤ 140737488355328) (x : Int) : Ev (fun k => spec_l1Has.f k l x) (decide (x ∈ l)) := has_l0 l hn x 0 (Nat.zero_le _)
theorem order_l0 (cg : List Ld) (hc : cg.length ≤ 140737488355328) (l : List Int) (hn : l.length ≤ 140737488355328) : ∀ i, i ≤ cg.length → ∃ b : Bool, Ev (fun k => spec_l10Order.l0 k cg l (i : Int)) b ∧ (b = true ↔ ∀ j : Nat, i ≤ j → j < cg.length → (j : Int) ∈ l) := by
  refine downTo cg.length ?_ ?_
  · exact ⟨true, Ev.step (fun k => by simp only [spec_l10Order.l0]; exact rfl) (ifn (by omega) (done rfl)), by simp; omega⟩
  · rintro i hi ⟨b, ih, hb⟩
    by_cases hm : (i : Int) ∈ l
    · refine ⟨b, Ev.step (fun k => by simp only [spec_l10Order.l0]; exact rfl) ?_, ?_⟩
      · refine ifp (by omega) (Ev.bind (has_ev l hn _) (ifp (by simpa using hm) ?_))
        rw [wrapS hi hc]; exact ih
      · rw [hb]
        constructor
        · intro h j h1 h2
          by_cases hj : j = i
          · subst hj; exact hm
          · exact h j (by omega) h2
        · intro h j h1 h2
          exact h j (by omega) h2
    · refine ⟨false, Ev.step (fun k => by simp only [spec_l10Order.l0]; exact rfl) (ifp (by omega) (Ev.bind (has_ev l hn (i : Int)) (ifn (show ¬ decide ((i : Int) ∈ l) = true by simpa using hm) (done rfl)))), ?_⟩
      constructor
      · intro h; cases h
      · intro h; exact absurd (h i (Nat.le_refl _) hi) hm

/-! ### the program's bits -/
def Ord (n : Nat) : Nat → List Int → Bool
  | _, [] => true
  | b, x :: r => decide (0 ≤ x ∧ x ≤ (n : Int) - 1) && (!(b.testBit x.toNat) && Ord n (b ||| 2 ^ x.toNat) r)
theorem ord_iff (n : Nat) : ∀ (l : List Int) (b : Nat), Ord n b l = true ↔ l.Nodup ∧ ∀ x ∈ l, 0 ≤ x ∧ x < n ∧ b.testBit x.toNat = false := by
  intro l
  induction l with
  | nil => intro b; simp [Ord]
  | cons x r ih =>
    intro b
    simp only [Ord, Bool.and_eq_true, decide_eq_true_eq, Bool.not_eq_true', ih, List.nodup_cons, List.mem_cons]
    constructor
    · rintro ⟨⟨h0, h1⟩, h2, h3, h4⟩
      refine ⟨⟨fun hm => ?_, h3⟩, fun y hy => ?_⟩
      · have := (h4 x hm).2.2
        simp [Nat.testBit_or, Nat.testBit_two_pow_self] at this
      · rcases hy with rfl | hy
        · exact ⟨h0, by omega, h2⟩
        · obtain ⟨a1, a2, a3⟩ := h4 y hy
          rw [Nat.testBit_or, Bool.or_eq_false_iff] at a3
          exact ⟨a1, a2, a3.1⟩
    · rintro ⟨⟨hm, hd⟩, h⟩
      obtain ⟨h0, h1, h2⟩ := h x (.inl rfl)
      refine ⟨⟨h0, by omega⟩, h2, hd, fun y hy => ?_⟩
      obtain ⟨a1, a2, a3⟩ := h y (.inr hy)
      refine ⟨a1, a2, ?_⟩
      rw [Nat.testBit_or, a3, Bool.false_or, Nat.testBit_two_pow]
      have hne : x ≠ y := fun e => hm (e ▸ hy)
      have : x.toNat ≠ y.toNat := by omega
      simp [this]
theorem isOrder_l0 (cg : List Ld) (hc : cg.length ≤ 8) (l : List Int) (hn : l.length ≤ 140737488355328) : ∀ i, i ≤ l.length → ∀ b : Nat, b < 256 → Ev (fun k => impl_isOrder.l0 k cg l (b : Int) l (l.length : Int) (i : Int)) (Ord cg.length b (l.drop i) && decide (l.length = cg.length)) := by
  have hw : wrap64 ((cg.length : Int) - 1) = (cg.length : Int) - 1 := w64 (by omega) (by omega)
  refine downTo l.length ?_ ?_
  · intro b _
    refine Ev.step (fun k => by simp only [impl_isOrder.l0]; exact rfl) (ifn (by omega) (done ?_))
    rw [List.drop_length]
    simp only [Ord, Bool.true_and]
    by_cases h : l.length = cg.length
    · simp [h]
    · have : ¬ (l.length : Int) = (cg.length : Int) := by omega
      simp [h, this]
  · intro i hi ih b hb
    refine Ev.step (fun k => by simp only [impl_isOrder.l0]; exact rfl) (ifp (by omega) (ifp (by omega) (ifp (by omega) (somb (within_eq _ _ _) ?_))))
    rw [rd_lt hi, wrapS hi hn, hw, drop_cons hi]
    by_cases hb0 : 0 ≤ l[i] ∧ l[i] ≤ (cg.length : Int) - 1
    · obtain ⟨x, hx⟩ := Int.eq_ofNat_of_zero_le hb0.1
      have hx8 : x ≤ 7 := by omega
      have hbit := bitN b (y := l[i]) (i := x) hx (by omega) (by omega)
      refine ifp (by simpa using hb0) (ifp hb0.1 ?_)
      rw [hbit]
      have et : l[i].toNat = x := by omega
      cases ht : b.testBit x with
      | true =>
        refine ifp (by simp) (done ?_)
        simp [Ord, et, ht]
      | false =>
        refine ifn (by simp) ?_
        rw [shlN (y := l[i]) (n := x) hx (by omega), orN b (2 ^ x) (by omega) (pow62 (by omega))]
        have hb2 : (b ||| 2 ^ x) < 256 := by
          have : (b ||| 2 ^ x) < 2 ^ 8 := Nat.or_lt_two_pow hb (Nat.pow_lt_pow_right (by decide) (by omega))
          exact this
        have := ih (b ||| 2 ^ x) hb2
        rw [show Ord cg.length b (l[i] :: l.drop (i + 1)) = Ord cg.length (b ||| 2 ^ x) (l.drop (i + 1)) from by simp [Ord, hb0.1, hb0.2, et, ht]]
        exact this
    · refine ifn (by simpa using hb0) (done ?_)
      simp only [Ord]
      rw [show decide (0 ≤ l[i] ∧ l[i] ≤ (cg.length : Int) - 1) = false from by simpa using hb0]
      rfl
theorem tip_l0 (a b o : Int) (cg : List Ld) (h : Valid a b o cg) (l : List Int) (hn : l.length ≤ 140737488355328) : ∀ i, i ≤ l.length → ∀ c : Nat, c < 256 → Ord cg.length c (l.drop i) = true →
    ∃ t u : Int, Ev (fun k => spec_l10Tip.l0 k cg l (c : Int) (i : Int) a b o) t ∧ Ev (fun k => impl_Raft_firstTip.l0 k cg (c : Int) l (l.length : Int) (i : Int) a b o) u ∧ (decide (t < 0) = (u == 0)) := by
  have hc8 := h.n
  refine downTo l.length ?_ ?_
  · intro c _ _
    exact ⟨-1, 0, Ev.step (fun k => by simp only [spec_l10Tip.l0]; exact rfl) (ifn (by omega) (done rfl)), Ev.step (fun k => by simp only [impl_Raft_firstTip.l0]; exact rfl) (ifn (by omega) (done rfl)), by decide⟩
  · intro i hi ih c hc ho
    rw [drop_cons hi] at ho
    simp only [Ord, Bool.and_eq_true, decide_eq_true_eq, Bool.not_eq_true'] at ho
    obtain ⟨⟨h0, h1⟩, h2, h3⟩ := ho
    obtain ⟨x, hx⟩ := Int.eq_ofNat_of_zero_le h0
    have et : l[i].toNat = x := by omega
    rw [et] at h2 h3
    have hx8 : x ≤ 7 := by omega
    have hp8 : 2 ^ x ≤ 128 := by
      have : 2 ^ x ≤ 2 ^ 7 := Nat.pow_le_pow_right (by decide) hx8
      exact this
    have hor : (c ||| 2 ^ x) = c + 2 ^ x := or_add c x h2
    have hb2 : (c ||| 2 ^ x) < 256 := by
      have : (c ||| 2 ^ x) < 2 ^ 8 := Nat.or_lt_two_pow hc (Nat.pow_lt_pow_right (by decide) (by omega))
      exact this
    have hadd : wrap64 ((c : Int) + ((2 ^ x : Nat) : Int)) = ((c ||| 2 ^ x : Nat) : Int) := by
      rw [hor]
      generalize 2 ^ x = Q at *
      rw [w64 (by omega) (by omega)]; omega
    obtain ⟨s, s1, s2⟩ := safe_ev h ((c ||| 2 ^ x : Nat) : Int)
    have e1 : ∀ k, spec_l10Tip.l0 (k + 1) cg l (c : Int) (i : Int) a b o = (spec_l10Safe.f k a b o cg ((c ||| 2 ^ x : Nat) : Int)).bind fun t => if t = true then spec_l10Tip.l0 k cg l ((c ||| 2 ^ x : Nat) : Int) ((i + 1 : Nat) : Int) a b o else some ((i + 1 : Nat) : Int) := by
      intro k
      simp only [spec_l10Tip.l0]
      rw [rd_lt hi, wrapS hi hn, shlN (y := l[i]) (n := x) hx (by omega), hadd]
      rw [if_pos (by omega), if_pos (by omega), if_pos h0]
    have e2 : ∀ k, impl_Raft_firstTip.l0 (k + 1) cg (c : Int) l (l.length : Int) (i : Int) a b o = (impl_Raft_isSafe.f k a b o cg ((c ||| 2 ^ x : Nat) : Int)).bind fun t => if t = true then impl_Raft_firstTip.l0 k cg ((c ||| 2 ^ x : Nat) : Int) l (l.length : Int) ((i + 1 : Nat) : Int) a b o else some ((i + 1 : Nat) : Int) := by
      intro k
      simp only [impl_Raft_firstTip.l0]
      rw [rd_lt hi, wrapS hi hn, shlN (y := l[i]) (n := x) hx (by omega), orN c (2 ^ x) (by omega) (by omega)]
      rw [if_pos (by omega), if_pos (by omega), if_pos (by omega), if_pos h0]
    cases s with
    | true =>
      obtain ⟨t, u, t1, u1, r⟩ := ih (c ||| 2 ^ x) hb2 h3
      exact ⟨t, u, Ev.step e1 (Ev.bind s1 (ifp (Eq.refl true) t1)), Ev.step e2 (Ev.bind s2 (ifp (Eq.refl true) u1)), r⟩
    | false =>
      refine ⟨((i + 1 : Nat) : Int), ((i + 1 : Nat) : Int), Ev.step e1 (Ev.bind s1 (ifn Bool.false_ne_true (done rfl))), Ev.step e2 (Ev.bind s2 (ifn Bool.false_ne_true (done rfl))), ?_⟩
      have g1 : ¬ ((i + 1 : Nat) : Int) < 0 := by omega
      have g2 : ¬ ((i + 1 : Nat) : Int) = 0 := by omega
      rw [decide_eq_false g1, beq_eq_false_iff_ne.2 g2]
theorem both (a b o : Int) (cg : List Ld) (hc : cg.length ≤ 140737488355328) (l : List Int) (hn : l.length ≤ 140737488355328) : ∃ r, Ev (fun k => spec_IsSafeOrder.f k a b o cg l) r ∧ Ev (fun k => impl_IsSafeOrder.f k a b o cg l) r := by
  have h1 := l10Cargo_ev a b o cg hc
  have h2 := areCargo_ev a b o cg hc
  cases hok : CargoOK a b o cg with
  | false =>
    rw [hok] at h1 h2
    have g1 : Ev (fun k => spec_l10Order.f k a b o cg l) false := by
      unfold spec_l10Order.f
      exact Ev.bind h1 (ifn Bool.false_ne_true (Ev.step (fun k => by simp only [spec_l10Order.j0]; exact rfl) (ifp (Eq.refl true) (done rfl))))
    refine ⟨(false, false), ?_, ?_⟩
    · unfold spec_IsSafeOrder.f
      exact Ev.bind g1 (ifn Bool.false_ne_true (done rfl))
    · unfold impl_IsSafeOrder.f
      exact Ev.bind h2 (ifn Bool.false_ne_true (done rfl))
  | true =>
    rw [hok] at h1 h2
    have hv := valid_of hok
    have g2 : Ev (fun k => impl_isOrder.f k cg l) (Ord cg.length 0 l && decide (l.length = cg.length)) := isOrder_l0 cg hv.n l hn 0 (Nat.zero_le _) 0 (by decide)
    have g1 : Ev (fun k => spec_l10Order.f k a b o cg l) (Ord cg.length 0 l && decide (l.length = cg.length)) := by
      unfold spec_l10Order.f
      refine Ev.bind h1 (ifp (Eq.refl true) (Ev.step (fun k => by simp only [spec_l10Order.j0]; exact rfl) ?_))
      by_cases hl : l.length = cg.length
      · refine ifn (by simp [hl]) ?_
        obtain ⟨t, ht, hi⟩ := order_l0 cg hc l hn 0 (Nat.zero_le _)
        have e : t = (Ord cg.length 0 l && decide (l.length = cg.length)) := by
          rw [Bool.eq_iff_iff, hi, Bool.and_eq_true, ord_iff, decide_eq_true_eq]
          constructor
          · intro h
            obtain ⟨d, r⟩ := cover_perm cg.length l (fun i hi => h i (Nat.zero_le _) hi) (by omega)
            exact ⟨⟨d, fun x hx => ⟨(r x hx).1, (r x hx).2, Nat.zero_testBit _⟩⟩, hl⟩
          · rintro ⟨⟨d, r⟩, _⟩ j _ hj
            exact nodup_cover cg.length l d (fun x hx => ⟨(r x hx).1, (r x hx).2.1⟩) hl j hj
        rw [← e]; exact ht
      · have : ¬ (l.length : Int) = (cg.length : Int) := by omega
        exact ifp (by simpa using this) (done (by simp [hl]))
    unfold spec_IsSafeOrder.f impl_IsSafeOrder.f
    cases ho : (Ord cg.length 0 l && decide (l.length = cg.length)) with
    | false =>
      rw [ho] at g1 g2
      exact ⟨(false, false), Ev.bind g1 (ifn Bool.false_ne_true (done rfl)), Ev.bind h2 (ifp (Eq.refl true) (Ev.bind g2 (ifn Bool.false_ne_true (done rfl))))⟩
    | true =>
      rw [ho] at g1 g2
      rw [Bool.and_eq_true] at ho
      obtain ⟨t, u, t1, u1, e⟩ := tip_l0 a b o cg hv l hn 0 (Nat.zero_le _) 0 (by decide) ho.1
      refine ⟨(decide (t < 0), true), Ev.bind g1 (ifp (Eq.refl true) (Ev.bind t1 (done rfl))), Ev.bind h2 (ifp (Eq.refl true) (Ev.bind g2 (ifp (Eq.refl true) (Ev.bind u1 (done ?_)))))⟩
      rw [e]
theorem pure : Pure := by
  intro a b o l s _ _ _ hl _ _ _
  obtain ⟨t, ht, hlen⟩ := szLoadS_eq l hl
  refine Ev.rounds ?_
  unfold laws_FnExactIsSafeOrder.f
  refine ifc (fun _ => done rfl) fun hs => somb ht (ifc (fun _ => done rfl) fun hneg => ?_)
  have hm := hlen hneg
  have hto := toLoadS_ev l (by omega)
  have hti := toIntS_ev s (by omega)
  have hcl : (l.map cv).length ≤ 140737488355328 := by rw [List.length_map]; omega
  obtain ⟨r, e1, e2⟩ := both a b o (l.map cv) hcl s (by omega)
  refine somb (a := (a, b, o)) rfl (Ev.bind hto (Ev.bind hti (Ev.bind e1 (Ev.bind hto (Ev.bind hti (somb (a := (a, b, o)) rfl (Ev.bind e2 (ifn (by simp) ?_))))))))
  refine Ev.step (fun k => by simp only [laws_FnExactIsSafeOrder.j0]; exact rfl) (ifn (by simp) (Ev.bind hto (Ev.bind (eqLoadS_ev _ hcl) (ifp (Eq.refl true) (Ev.bind hti (Ev.bind (eqIntS_ev s (by omega)) ?_))))))
  exact ifp (Eq.refl true) (done rfl)
end Go.Proofs.Ytkpdddlecibbnaa.fnExactIsSafeOrder
