/- What eachEven comes to with the closure of FirstEven. No conditions beyond those of the lemmas' own hypotheses. -/
import Derived.Test.YtkedfmmmjopofaaEvens
import Derived.Test.YtkedfmmmjopofaaXSex6
import Derived.Test.YtkedfmmmjopofaaXSex9
namespace Go.Proofs.Ytkedfmmmjopofaa.PureEvensFirst
open Go.RowKit Go.Proofs.Ytkedfmmmjopofaa.XSe Go.Proofs.Ytkedfmmmjopofaa.Plain Go.Proofs.Ytkedfmmmjopofaa.PureSeats Go.Proofs.Ytkedfmmmjopofaa.PureEvens Go.Proofs.YtkedfmmmjopofaaW.PrintWords Go.Proofs.YtkedfmmmjopofaaW.PrintLast Go.Proofs.YtkedfmmmjopofaaW.PrintMore
set_option linter.unusedVariables false
def tell (x : List Int) (s : List Int × Bool) : Bool × (List Int × Bool) := (false, (x, true))
theorem tell_eq (x : List Int) (s : List Int × Bool) (h : x.length ≤ 12) : impl_FirstEven_1.f x s = some (tell x s) := by
  unfold impl_FirstEven_1.f slices_Clone.f
  rw [if_pos (by omega)]; rfl
/-- What the closure is told, one seating after the other, until it says false. -/
def G : List (List Int) → List Int × Bool → Bool × (List Int × Bool)
  | [], s => (true, s)
  | x :: L, s => if (tell x s).1 = true then G L (tell x s).2 else (false, (tell x s).2)
theorem G_cons (x : List Int) (L : List (List Int)) (s : List Int × Bool) : G (x :: L) s = if (tell x s).1 = true then G L (tell x s).2 else (false, (tell x s).2) := rfl
theorem G_append : ∀ (A B : List (List Int)) (s : List Int × Bool), G (A ++ B) s = if (G A s).1 = true then G B (G A s).2 else (false, (G A s).2) := by
  intro A
  induction A with
  | nil => intro B s; rfl
  | cons x A ih =>
    intro B s
    rw [List.cons_append, G_cons, G_cons]
    by_cases h : (tell x s).1 = true
    · rw [if_pos h, if_pos h, ih]
    · rw [if_neg h, if_neg h, if_neg Bool.false_ne_true]
section
variable {ws : List Int} {kk : Int}
theorem fr_ev (o : Ok ws kk) : ∀ j : Nat, ∀ pre : List Int, pre.length + j = ws.length → ∀ m : Int, -594 * (pre.length : Int) ≤ m → m ≤ 594 * (pre.length : Int) → ∀ (st : List Int) (s : List Int × Bool), st.length = ws.length → st.take pre.length = pre → ∃ st2 : List Int, Ev (fun k => impl_eachEven_FirstEven_1.fr k ws kk st (pre.length : Int) m s) ((G (evens ws kk j pre m) s).1, st2, (G (evens ws kk j pre m) s).2) ∧ st2.length = ws.length ∧ st2.take pre.length = pre := by
  have lw := o.lw
  intro j
  induction j with
  | zero =>
    intro pre hj m h1 h2 st s hs ht
    have e : st = pre := by rw [← ht, show pre.length = st.length from by omega, List.take_length]
    subst e
    refine ⟨st, Ev.step (fun k => by simp only [impl_eachEven_FirstEven_1.fr]; exact rfl) (ifp (by omega) ?_), hs, ht⟩
    by_cases hm : m = 0
    · rw [show evens ws kk 0 st m = [st] from by unfold evens; rw [if_pos hm], G_cons]
      refine ifp hm (somb (tell_eq st s (by omega)) (done ?_))
      by_cases hb : (tell st s).1 = true
      · rw [if_pos hb, hb]; rfl
      · rw [if_neg hb]; simp only [Bool.not_eq_true] at hb; rw [hb]
    · rw [show evens ws kk 0 st m = [] from by unfold evens; rw [if_neg hm]]
      exact ifn hm (done rfl)
  | succ j ih =>
    intro pre hj m h1 h2 st s hs ht
    have ha : pre.length < ws.length := by omega
    suffices key : ∀ i, i ≤ 2 * kk.toNat + 1 → ∀ (st : List Int) (s : List Int × Bool), st.length = ws.length → st.take pre.length = pre → ∃ st2 : List Int, Ev (fun k => impl_eachEven_FirstEven_1.lp k ws kk st (pre.length : Int) m s (P kk i)) ((G ((List.range' i (2 * kk.toNat + 1 - i)).flatMap (one ws kk j pre m)) s).1, st2, (G ((List.range' i (2 * kk.toNat + 1 - i)).flatMap (one ws kk j pre m)) s).2) ∧ st2.length = ws.length ∧ st2.take pre.length = pre by
      obtain ⟨st2, e, q1, q2⟩ := key 0 (Nat.zero_le _) st s hs ht
      rw [← P_zero o] at e
      exact ⟨st2, Ev.step (fun k => by simp only [impl_eachEven_FirstEven_1.fr]; exact rfl) (ifn (by omega) e), q1, q2⟩
    refine downTo (2 * kk.toNat + 1) ?_ ?_
    · intro st s hs ht
      refine ⟨st, Ev.step (fun k => by simp only [impl_eachEven_FirstEven_1.lp]; exact rfl) (ifn (P_end o) (done ?_)), hs, ht⟩
      rw [Nat.sub_self]; rfl
    · intro i hi ihi st s hs ht
      obtain ⟨b1, b2, b3, b4, b5, b6, b7⟩ := P_b o hi
      rw [show 2 * kk.toNat + 1 - i = (2 * kk.toNat + 1 - (i + 1)) + 1 from by omega, List.range'_succ, List.flatMap_cons]
      have hat : 0 ≤ (pre.length : Int) := by omega
      have hst : (pre.length : Int) < (st.length : Int) := by omega
      have hws : (pre.length : Int) < (ws.length : Int) := by omega
      have htk : st.take ((pre.length : Nat) : Int).toNat = pre := by rw [Int.toNat_natCast]; exact ht
      by_cases h30 : P kk i = 30
      · rw [show one ws kk j pre m i = [] from by unfold one; rw [if_pos (Or.inl h30)], List.nil_append]
        obtain ⟨st2, e, q⟩ := ihi st s hs ht
        rw [← b6] at e
        exact ⟨st2, Ev.step (fun k => by simp only [impl_eachEven_FirstEven_1.lp]; exact rfl) (ifp b5 (ifp h30 e)), q⟩
      · have hh := contains_ev pre (by omega) (P kk i)
        rw [← htk] at hh
        cases hc : Has pre (P kk i) with
        | true =>
          rw [htk, hc, ← htk] at hh
          rw [show one ws kk j pre m i = [] from by unfold one; rw [if_pos (Or.inr hc)], List.nil_append]
          obtain ⟨st2, e, q⟩ := ihi st s hs ht
          rw [← b6] at e
          exact ⟨st2, Ev.step (fun k => by simp only [impl_eachEven_FirstEven_1.lp]; exact rfl) (ifp b5 (ifn h30 (ifp hat (ifp hst (ifp hws (Ev.bind hh (ifp (Eq.refl true) e))))))), q⟩
        | false =>
          rw [htk, hc, ← htk] at hh
          rw [show one ws kk j pre m i = evens ws kk j (pre ++ [P kk i]) (m + rd ws (pre.length : Int) * (P kk i - 30)) from by unfold one; rw [if_neg (by rw [hc]; simp [h30])]]
          obtain ⟨n1, n2, n3⟩ := next_m o ha hi h1 h2
          have hl : (pre ++ [P kk i]).length = pre.length + 1 := by simp
          have hset : (st.set ((pre.length : Nat) : Int).toNat (P kk i)).take (pre ++ [P kk i]).length = pre ++ [P kk i] := by
            rw [hl, Int.toNat_natCast, take_set_succ _ (by omega), ht]
          obtain ⟨st3, e1, q1, q2⟩ := ih (pre ++ [P kk i]) (by omega) (m + rd ws (pre.length : Int) * (P kk i - 30)) (by rw [hl]; exact n2) (by rw [hl]; exact n3) (st.set ((pre.length : Nat) : Int).toNat (P kk i)) s (by rw [List.length_set]; exact hs) hset
          have q3 : st3.take pre.length = pre := by
            rw [hl] at q2
            have := congrArg (List.take pre.length) q2
            rw [List.take_take, Nat.min_eq_left (by omega), List.take_append_of_le_length (Nat.le_refl _), List.take_length] at this
            exact this
          rw [hl, ← n1, ← wrapS ha (by omega)] at e1
          obtain ⟨g, hg⟩ : ∃ g, G (evens ws kk j (pre ++ [P kk i]) (m + rd ws (pre.length : Int) * (P kk i - 30))) s = g := ⟨_, rfl⟩
          rw [n1, hg, ← n1] at e1
          rw [G_append, hg]
          by_cases hb : g.1 = true
          · rw [if_pos hb]
            obtain ⟨st2, e2, q4, q5⟩ := ihi st3 g.2 q1 q3
            rw [← b6] at e2
            exact ⟨st2, Ev.step (fun k => by simp only [impl_eachEven_FirstEven_1.lp]; exact rfl) (ifp b5 (ifn h30 (ifp hat (ifp hst (ifp hws (Ev.bind hh (ifn Bool.false_ne_true (Ev.bind e1 (ifp hb e2))))))))), q4, q5⟩
          · rw [if_neg hb]
            exact ⟨st3, Ev.step (fun k => by simp only [impl_eachEven_FirstEven_1.lp]; exact rfl) (ifp b5 (ifn h30 (ifp hat (ifp hst (ifp hws (Ev.bind hh (ifn Bool.false_ne_true (Ev.bind e1 (ifn hb (done rfl)))))))))), q1, q3⟩
theorem each_ev (o : Ok ws kk) (s : List Int × Bool) : Ev (fun k => impl_eachEven_FirstEven_1.f k ws kk s) (G (All ws kk) s).2 := by
  have lw := o.lw
  obtain ⟨st2, e, _, _⟩ := fr_ev o ws.length [] (by simp) 0 (by simp) (by simp) (List.replicate ws.length 0) s (by simp) rfl
  unfold impl_eachEven_FirstEven_1.f
  exact ifp (by omega) (Ev.bind e (done rfl))
theorem G_eq (L : List (List Int)) (s : List Int) : G L (s, false) = if L = [] then (true, (s, false)) else (false, (L.head?.getD s, true)) := by
  cases L with
  | nil => rfl
  | cons x L => unfold G tell; simp
/-- What both return. -/
def Res (ws : List Int) (kk : Int) : List Int × Bool := if CanOK ws kk = true then ((All ws kk).head?.getD [], decide ((((All ws kk).length : Nat) : Int) > 0)) else ([], false)
theorem both (ws : List Int) (hw : ws.length ≤ 1048576) (kk : Int) : Ev (fun k => spec_FirstEven.f k ws kk) (Res ws kk) ∧ Ev (fun k => impl_FirstEven.f k ws kk) (Res ws kk) := by
  have h1 := l9Ask_ev ws (by omega) kk
  have h2 := canSeat_ev ws (by omega) kk
  unfold spec_FirstEven.f impl_FirstEven.f Res
  cases hc : CanOK ws kk with
  | false =>
    rw [hc] at h2
    rw [if_neg Bool.false_ne_true]
    refine ⟨?_, Ev.bind h2 (ifn Bool.false_ne_true (done rfl))⟩
    refine Ev.bind h1 ?_
    cases ha : (WsOK ws && Sx kk) with
    | false => exact ifn Bool.false_ne_true (done rfl)
    | true =>
      have : ¬ ws.length ≤ 6 := by
        intro q
        unfold CanOK at hc
        rw [ha, decide_eq_true q] at hc
        exact absurd hc (by simp)
      exact ifp (Eq.refl true) (ifp (by omega) (done rfl))
  | true =>
    rw [hc] at h2
    rw [if_pos rfl]
    have o := Ok.of hc
    have lw := o.lw
    have ha : (WsOK ws && Sx kk) = true := by
      unfold CanOK at hc
      rw [Bool.and_eq_true] at hc
      exact hc.1
    rw [ha] at h1
    have e := each_ev o (([] : List Int), false)
    rw [G_eq] at e
    refine ⟨Ev.bind h1 (ifp (Eq.refl true) (ifn (by omega) (Ev.bind (all_ev o) (done rfl)))), Ev.bind h2 (ifp (Eq.refl true) ?_)⟩
    have r : ((All ws kk).head?.getD [], decide ((((All ws kk).length : Nat) : Int) > 0)) = (if All ws kk = [] then (true, (([] : List Int), false)) else (false, ((All ws kk).head?.getD [], true))).2 := by
      cases All ws kk with
      | nil => rfl
      | cons x L => simp
    rw [r]
    exact e
theorem res_len (ws : List Int) (kk : Int) : (Res ws kk).1.length ≤ 6 := by
  unfold Res
  split
  · rename_i h
    have o := Ok.of h
    have lw := o.lw
    show ((All ws kk).head?.getD []).length ≤ 6
    cases hA : All ws kk with
    | nil => simp
    | cons x L =>
      have := (evens_each ws kk ws.length [] 0 x (by show x ∈ All ws kk; rw [hA]; exact List.mem_cons_self ..)).1
      simp at this ⊢
      omega
  · simp
end
end Go.Proofs.Ytkedfmmmjopofaa.PureEvensFirst
