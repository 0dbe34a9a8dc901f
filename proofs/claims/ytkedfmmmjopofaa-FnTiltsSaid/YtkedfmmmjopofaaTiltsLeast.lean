/- What eachTilt comes to with the closure of LeastTilt: a fold over the numbers of the tilts. No conditions beyond those of the lemmas' own hypotheses. -/
import Derived.Test.YtkedfmmmjopofaaTilts
import Derived.Test.YtkedfmmmjopofaaXTix6
import Derived.Test.YtkedfmmmjopofaaXTix7
namespace Go.Proofs.Ytkedfmmmjopofaa.PureTiltsLeast
open Go.RowKit Go.Proofs.Ytkedfmmmjopofaa.XTi Go.Proofs.Ytkedfmmmjopofaa.Plain Go.Proofs.Ytkedfmmmjopofaa.Bits Go.Proofs.Ytkedfmmmjopofaa.PureSeats Go.Proofs.Ytkedfmmmjopofaa.PureArms Go.Proofs.Ytkedfmmmjopofaa.PureTilts Go.Proofs.YtkedfmmmjopofaaW.PrintWords Go.Proofs.YtkedfmmmjopofaaW.PrintLast Go.Proofs.YtkedfmmmjopofaaW.PrintMore
set_option linter.unusedVariables false
theorem li_ev {ws ar : List Int} (o : Ok ws ar) {code : Nat} (hc : code < 2 ^ ws.length) : ∀ i, i ≤ ws.length → ∀ (s : List Int) (m : Int), s.length = i → -594 * (i : Int) ≤ m → m ≤ 594 * (i : Int) → Ev (fun k => impl_eachTilt_LeastTilt_1.li k ws ar (ws.length : Int) (code : Int) s m (i : Int)) (s ++ tiltS (ws.length - i) code, m + mom (ws.drop i) (ar.drop i) (tiltS (ws.length - i) code)) := by
  have h1 := o.la; have h2 := o.lw
  refine downTo ws.length ?_ ?_
  · intro s m hs _ _
    refine Ev.step (fun k => by simp only [impl_eachTilt_LeastTilt_1.li]; exact rfl) (ifn (by omega) (done ?_))
    rw [Nat.sub_self, List.drop_length, mom_nilw, Int.add_zero]; simp [tiltS]
  · intro i hi ih s m hs hm1 hm2
    have a1 : i < ar.length := by omega
    obtain ⟨g1, g2⟩ := sg_eq hi (by omega) (code_le h2 hc)
    have hW := o.hw ws[i] (List.getElem_mem hi)
    have hA := o.ha ar[i] (List.getElem_mem a1)
    have t := term_b hW hA (sgn_two code (ws.length - 1 - i))
    obtain ⟨sg, hsg⟩ : ∃ x, sgn code (ws.length - 1 - i) = x := ⟨_, rfl⟩
    have two := sgn_two code (ws.length - 1 - i)
    rw [hsg] at t g2 two
    have e1 : wrap64 (wrap64 (sg * ws[i]) * ar[i]) = ws[i] * ar[i] * sg := by
      have c : sg * ws[i] * ar[i] = ws[i] * ar[i] * sg := by rw [Int.mul_assoc, Int.mul_comm]
      have b : -99 ≤ sg * ws[i] ∧ sg * ws[i] ≤ 99 := by rcases two with rfl | rfl <;> omega
      rw [w64 (x := sg * ws[i]) (by omega) (by omega), c, w64 (by omega) (by omega)]
    have e := ih (s ++ [sg]) (m + ws[i] * ar[i] * sg) (by simp [hs]) (by omega) (by omega)
    refine Ev.step (fun k => by simp only [impl_eachTilt_LeastTilt_1.li]; exact rfl) (ifp (by omega) (ifp (by omega) (ifp g1 (ifp (by omega) (ifp (by omega) ?_)))))
    rw [g2, rd_lt hi, rd_lt a1, e1, w64 (x := m + _) (by omega) (by omega), wrapS hi (by omega)]
    have d : ws.length - i = (ws.length - (i + 1)) + 1 := by omega
    have e3 : s ++ tiltS (ws.length - i) code = s ++ [sg] ++ tiltS (ws.length - (i + 1)) code := by
      rw [d, tiltS_succ]
      rw [show ws.length - (i + 1) = ws.length - 1 - i from by omega, hsg, List.append_assoc, List.singleton_append]
    have e4 : m + mom (ws.drop i) (ar.drop i) (tiltS (ws.length - i) code) = m + ws[i] * ar[i] * sg + mom (ws.drop (i + 1)) (ar.drop (i + 1)) (tiltS (ws.length - (i + 1)) code) := by
      rw [d, drop_cons hi, drop_cons a1, tiltS_succ]
      rw [show ws.length - (i + 1) = ws.length - 1 - i from by omega, hsg]
      simp only [mom]; omega
    rw [e3, e4]
    exact e
theorem li_all {ws ar : List Int} (o : Ok ws ar) {code : Nat} (hc : code < 2 ^ ws.length) : Ev (fun k => impl_eachTilt_LeastTilt_1.li k ws ar (ws.length : Int) (code : Int) [] 0 0) (tiltS ws.length code, mom ws ar (tiltS ws.length code)) := by
  have := li_ev o hc 0 (Nat.zero_le _) [] 0 rfl (by omega) (by omega)
  rw [Nat.sub_zero, List.nil_append, Int.zero_add, List.drop_zero, List.drop_zero] at this
  exact this
/-- One more tilt. -/
def tstep (ws ar : List Int) (s : List Int × Int) (c : Nat) : List Int × Int := if s.2 < 0 ∨ mx (mom ws ar (tiltS ws.length c)) (wrap64 (-(mom ws ar (tiltS ws.length c)))) < s.2 then (tiltS ws.length c, mx (mom ws ar (tiltS ws.length c)) (wrap64 (-(mom ws ar (tiltS ws.length c))))) else s
theorem lo_ev {ws ar : List Int} (o : Ok ws ar) : ∀ c : Nat, c ≤ 2 ^ ws.length → ∀ s : List Int × Int, Ev (fun k => impl_eachTilt_LeastTilt_1.lo k ws ar (ws.length : Int) ((2 ^ ws.length : Nat) : Int) (c : Int) s) ((List.range' c (2 ^ ws.length - c)).foldl (tstep ws ar) s) := by
  have hp : 2 ^ ws.length ≤ 4096 := by
    have := Nat.pow_le_pow_right (n := 2) (by decide) o.lw
    simpa using this
  refine downTo (2 ^ ws.length) ?_ ?_
  · intro s
    refine Ev.step (fun k => by simp only [impl_eachTilt_LeastTilt_1.lo]; exact rfl) (ifn (by omega) (done ?_))
    rw [Nat.sub_self]; rfl
  · intro c hc ih s
    refine Ev.step (fun k => by simp only [impl_eachTilt_LeastTilt_1.lo]; exact rfl) (ifp (by omega) (Ev.bind (li_all o hc) ?_))
    rw [show 2 ^ ws.length - c = (2 ^ ws.length - (c + 1)) + 1 from by omega, List.range'_succ, List.foldl_cons]
    have e := ih (tstep ws ar s c)
    rw [← wrapS hc (by omega)] at e
    refine somb (a := tstep ws ar s c) ?_ e
    rfl
theorem each_ev {ws ar : List Int} (o : Ok ws ar) (s : List Int × Int) : Ev (fun k => impl_eachTilt_LeastTilt_1.f k ws ar s) ((List.range (2 ^ ws.length)).foldl (tstep ws ar) s) := by
  have h := lo_ev o 0 (Nat.zero_le _) s
  rw [Nat.sub_zero, ← List.range_eq_range'] at h
  unfold impl_eachTilt_LeastTilt_1.f
  rw [shlN (rfl : (ws.length : Int) = ws.length) (Nat.le_trans o.lw (by decide))]
  exact h
end Go.Proofs.Ytkedfmmmjopofaa.PureTiltsLeast
