/- LeastTilt, in the program and in the reference alike. No conditions beyond those of the lemmas' own hypotheses. -/
import Derived.Test.YtkedfmmmjopofaaTiltsLeast
import Derived.Test.YtkedfmmmjopofaaXTix9
import Derived.Test.YtkedfmmmjopofaaXTix7
namespace Go.Proofs.Ytkedfmmmjopofaa.PureLeastTilt
open Go.RowKit Go.Proofs.Ytkedfmmmjopofaa.XTi Go.Proofs.Ytkedfmmmjopofaa.Plain Go.Proofs.Ytkedfmmmjopofaa.Bits Go.Proofs.Ytkedfmmmjopofaa.PureSeats Go.Proofs.Ytkedfmmmjopofaa.PureArms Go.Proofs.Ytkedfmmmjopofaa.PureTilts Go.Proofs.Ytkedfmmmjopofaa.PureTiltsLeast Go.Proofs.YtkedfmmmjopofaaW.PrintWords Go.Proofs.YtkedfmmmjopofaaW.PrintLast Go.Proofs.YtkedfmmmjopofaaW.PrintMore
set_option linter.unusedVariables false
/-- A moment without its sign. -/
def sz (m : Int) : Int := mx m (wrap64 (-m))
theorem sz_eq {m : Int} (h1 : -7128 ≤ m) (h2 : m ≤ 7128) : sz m = if m < 0 then -m else m := by
  unfold sz mx
  rw [w64 (by omega) (by omega)]
  split <;> split <;> omega
theorem most_eq (m : Int) : spec_l1Most.f m (wrap64 (-m)) = some (sz m) := by
  unfold spec_l1Most.f sz mx
  by_cases h : m > wrap64 (-m)
  · rw [if_pos h, if_neg (by omega)]
  · rw [if_neg h]
    by_cases h2 : m < wrap64 (-m)
    · rw [if_pos h2]
    · rw [if_neg h2, show wrap64 (-m) = m from by omega]
section
variable {ws ar : List Int}
/-- The moment of a tilt by its number. -/
def mo (ws ar : List Int) (c : Nat) : Int := mom ws ar (tiltS ws.length c)
theorem tstep_eq (ws ar : List Int) (s : List Int × Int) (c : Nat) : tstep ws ar s c = if s.2 < 0 ∨ sz (mo ws ar c) < s.2 then (tiltS ws.length c, sz (mo ws ar c)) else s := rfl
theorem mo_b (o : Ok ws ar) (c : Nat) : -7128 ≤ mo ws ar c ∧ mo ws ar c ≤ 7128 := by
  have h := mom_b o.ha o.hw (tiltS_two ws.length c)
  have := o.lw
  unfold mo
  omega
theorem sz_nn (o : Ok ws ar) (c : Nat) : 0 ≤ sz (mo ws ar c) := by
  obtain ⟨h1, h2⟩ := mo_b o c
  rw [sz_eq h1 h2]
  split <;> omega
theorem loop (o : Ok ws ar) : ∀ c : Nat, c ≤ 2 ^ ws.length → ∀ s : List Int × Int, 0 ≤ s.2 → Ev (fun k => spec_LeastTilt.l0 k ws ar (ws.length : Int) s.1 s.2 (c : Int)) (((List.range' c (2 ^ ws.length - c)).foldl (tstep ws ar) s).1, ((List.range' c (2 ^ ws.length - c)).foldl (tstep ws ar) s).2, true) := by
  have lw := o.lw
  have hp : 2 ^ ws.length ≤ 4096 := by
    have := Nat.pow_le_pow_right (n := 2) (by decide) o.lw
    simpa using this
  have hs : shl .i64 1 (ws.length : Int) = ((2 ^ ws.length : Nat) : Int) := shlN rfl (by omega)
  refine downTo (2 ^ ws.length) ?_ ?_
  · intro s _
    refine Ev.step (fun k => by simp only [spec_LeastTilt.l0]; exact rfl) (ifp (by omega) (ifn (by rw [hs]; omega) (done ?_)))
    rw [Nat.sub_self]; rfl
  · intro c hc ih s hs0
    have e1 := signs_ev lw hc
    have e2 := moment_ev o (tiltS_len ws.length c) (tiltS_two ws.length c)
    have nn := sz_nn o c
    refine Ev.step (fun k => by simp only [spec_LeastTilt.l0]; exact rfl) (ifp (by omega) (ifp (by rw [hs]; omega) (Ev.bind e1 (Ev.bind e2 (somb (most_eq _) ?_)))))
    rw [show 2 ^ ws.length - c = (2 ^ ws.length - (c + 1)) + 1 from by omega, List.range'_succ, List.foldl_cons]
    have hw := wrapS hc (by omega)
    by_cases h : sz (mo ws ar c) < s.2
    · have et : tstep ws ar s c = (tiltS ws.length c, sz (mo ws ar c)) := by rw [tstep_eq, if_pos (Or.inr h)]
      have e := ih (tstep ws ar s c) (by rw [et]; exact nn)
      rw [← hw] at e
      refine ifp h ?_
      rw [et] at e ⊢
      exact e
    · have et : tstep ws ar s c = s := by rw [tstep_eq, if_neg (fun q => q.elim (fun q => by omega) h)]
      have e := ih (tstep ws ar s c) (by rw [et]; exact hs0)
      rw [← hw] at e
      refine ifn h ?_
      rw [et] at e ⊢
      exact e
/-- The first tilt of the least size. -/
def Best (ws ar : List Int) : List Int × Int := (List.range (2 ^ ws.length)).foldl (tstep ws ar) (([] : List Int), -1)
theorem best_eq (ws ar : List Int) : Best ws ar = (List.range' 1 (2 ^ ws.length - 1)).foldl (tstep ws ar) (tiltS ws.length 0, sz (mo ws ar 0)) := by
  have hp := Nat.two_pow_pos ws.length
  unfold Best
  rw [List.range_eq_range', show 2 ^ ws.length = (2 ^ ws.length - 1) + 1 from by omega, List.range'_succ, List.foldl_cons]
  rfl
theorem spec_ev (o : Ok ws ar) : Ev (fun k => (spec_l9Signs.f k (ws.length : Int) 0).bind fun t125 => ((spec_l9Moment.f k ws ar t125).bind fun t128 => ((spec_l1Most.f t128 (wrap64 (-t128))).bind fun t129 => (spec_LeastTilt.l0 k ws ar (ws.length : Int) t125 t129 1)))) ((Best ws ar).1, (Best ws ar).2, true) := by
  have hp := Nat.two_pow_pos ws.length
  have e1 := signs_ev (code := 0) o.lw hp
  have e2 := moment_ev o (tiltS_len ws.length 0) (tiltS_two ws.length 0)
  refine Ev.bind e1 (Ev.bind e2 (somb (most_eq _) ?_))
  rw [best_eq]
  exact loop o 1 hp (tiltS ws.length 0, sz (mo ws ar 0)) (sz_nn o 0)
/-- What it is: a tilt, and none is smaller. -/
theorem fold_best (o : Ok ws ar) : ∀ (L : List Nat) (s : List Int × Int), (∀ c ∈ L, c < 2 ^ ws.length) → (∃ c, c < 2 ^ ws.length ∧ s = (tiltS ws.length c, sz (mo ws ar c))) → (∃ c, c < 2 ^ ws.length ∧ L.foldl (tstep ws ar) s = (tiltS ws.length c, sz (mo ws ar c))) ∧ (L.foldl (tstep ws ar) s).2 ≤ s.2 ∧ ∀ c ∈ L, (L.foldl (tstep ws ar) s).2 ≤ sz (mo ws ar c) := by
  intro L
  induction L with
  | nil => intro s _ h; exact ⟨h, Int.le_refl _, fun c hc => by cases hc⟩
  | cons d L ih =>
    intro s hL hs
    have hd := hL d (List.mem_cons_self ..)
    have h0 : 0 ≤ s.2 := by obtain ⟨c, _, rfl⟩ := hs; exact sz_nn o c
    rw [List.foldl_cons]
    by_cases h : sz (mo ws ar d) < s.2
    · have et : tstep ws ar s d = (tiltS ws.length d, sz (mo ws ar d)) := by rw [tstep_eq, if_pos (Or.inr h)]
      rw [et]
      obtain ⟨i1, i2, i3⟩ := ih (tiltS ws.length d, sz (mo ws ar d)) (fun c hc => hL c (List.mem_cons_of_mem _ hc)) ⟨d, hd, rfl⟩
      have i2' : (L.foldl (tstep ws ar) (tiltS ws.length d, sz (mo ws ar d))).2 ≤ sz (mo ws ar d) := i2
      refine ⟨i1, by omega, fun c hc => ?_⟩
      rcases List.mem_cons.1 hc with rfl | hc
      · exact i2'
      · exact i3 c hc
    · have et : tstep ws ar s d = s := by rw [tstep_eq, if_neg (fun q => q.elim (fun q => by omega) h)]
      rw [et]
      obtain ⟨i1, i2, i3⟩ := ih s (fun c hc => hL c (List.mem_cons_of_mem _ hc)) hs
      refine ⟨i1, i2, fun c hc => ?_⟩
      rcases List.mem_cons.1 hc with rfl | hc
      · omega
      · exact i3 c hc
theorem best_is (o : Ok ws ar) : (∃ c, c < 2 ^ ws.length ∧ Best ws ar = (tiltS ws.length c, sz (mo ws ar c))) ∧ ∀ c, c < 2 ^ ws.length → (Best ws ar).2 ≤ sz (mo ws ar c) := by
  have hp := Nat.two_pow_pos ws.length
  obtain ⟨h1, h2, h3⟩ := fold_best o (List.range' 1 (2 ^ ws.length - 1)) (tiltS ws.length 0, sz (mo ws ar 0)) (fun c hc => by rw [List.mem_range'_1] at hc; omega) ⟨0, hp, rfl⟩
  rw [best_eq]
  refine ⟨h1, fun c hc => ?_⟩
  rcases Nat.eq_zero_or_pos c with rfl | h
  · exact h2
  · exact h3 c (by rw [List.mem_range'_1]; omega)
end
/-- What both return. -/
def Res (ws ar : List Int) : List Int × Int × Bool := if ArmsOK ws ar = true then ((Best ws ar).1, (Best ws ar).2, true) else ([], 0, false)
theorem both (ws : List Int) (hn : ws.length ≤ 1048576) (ar : List Int) (hl : ar.length ≤ 1048576) : Ev (fun k => spec_LeastTilt.f k ws ar) (Res ws ar) ∧ Ev (fun k => impl_LeastTilt.f k ws ar) (Res ws ar) := by
  have h1 := l9Arms_ev ws (by omega) ar (by omega)
  have h2 := areArms_ev ws (by omega) ar (by omega)
  unfold spec_LeastTilt.f impl_LeastTilt.f Res
  cases hr : ArmsOK ws ar with
  | false =>
    rw [hr] at h1 h2
    rw [if_neg Bool.false_ne_true]
    exact ⟨Ev.bind h1 (ifn Bool.false_ne_true (done rfl)), Ev.bind h2 (ifn Bool.false_ne_true (done rfl))⟩
  | true =>
    rw [hr] at h1 h2
    have o := Ok.of hr
    rw [if_pos rfl]
    exact ⟨Ev.bind h1 (ifp (Eq.refl true) (spec_ev o)), Ev.bind h2 (ifp (Eq.refl true) (Ev.bind (each_ev o (([] : List Int), -1)) (done rfl)))⟩
theorem res_len (ws ar : List Int) : (Res ws ar).1.length ≤ 12 := by
  unfold Res
  split
  · rename_i h
    have o := Ok.of h
    obtain ⟨⟨c, _, e⟩, _⟩ := best_is o
    show (Best ws ar).1.length ≤ 12
    rw [e]
    show (tiltS ws.length c).length ≤ 12
    rw [tiltS_len]; exact o.lw
  · simp
end Go.Proofs.Ytkedfmmmjopofaa.PureLeastTilt
