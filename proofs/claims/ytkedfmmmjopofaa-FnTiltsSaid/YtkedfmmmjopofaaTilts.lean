/- The signs of a tilt by its number, and their moment. No conditions beyond those of the lemmas' own hypotheses. -/
import Derived.Test.YtkedfmmmjopofaaArms
import Derived.Test.YtkedfmmmjopofaaBits
import Derived.Test.YtkedfmmmjopofaaXTix8
namespace Go.Proofs.Ytkedfmmmjopofaa.PureTilts
open Go.RowKit Go.Proofs.Ytkedfmmmjopofaa.XTi Go.Proofs.Ytkedfmmmjopofaa.Plain Go.Proofs.Ytkedfmmmjopofaa.Bits Go.Proofs.Ytkedfmmmjopofaa.PureSeats Go.Proofs.Ytkedfmmmjopofaa.PureArms Go.Proofs.YtkedfmmmjopofaaW.PrintWords Go.Proofs.YtkedfmmmjopofaaW.PrintLast Go.Proofs.YtkedfmmmjopofaaW.PrintMore
set_option linter.unusedVariables false
/-- The sign at a bit. -/
def sgn (code j : Nat) : Int := if code.testBit j then 1 else -1
theorem sgn_two (code j : Nat) : sgn code j = 1 ∨ sgn code j = -1 := by unfold sgn; split <;> simp
/-- The signs of the lowest bits, the greatest first. -/
def tiltS : Nat → Nat → List Int
  | 0, _ => []
  | j + 1, code => sgn code j :: tiltS j code
theorem tiltS_succ (j code : Nat) : tiltS (j + 1) code = sgn code j :: tiltS j code := rfl
theorem tiltS_len (j code : Nat) : (tiltS j code).length = j := by induction j with | zero => rfl | succ j ih => simp [tiltS, ih]
theorem tiltS_two (j code : Nat) : ∀ x ∈ tiltS j code, x = 1 ∨ x = -1 := by
  induction j with
  | zero => intro x hx; cases hx
  | succ j ih =>
    intro x hx
    rcases List.mem_cons.1 hx with rfl | hx
    · exact sgn_two _ _
    · exact ih x hx
/-- The moment of signs. -/
def mom : List Int → List Int → List Int → Int
  | w :: ws, a :: as_, s :: ss => w * a * s + mom ws as_ ss
  | _, _, _ => 0
theorem mom_nil (ws ar : List Int) : mom ws ar [] = 0 := by cases ws <;> cases ar <;> rfl
theorem mom_nilw (ar ss : List Int) : mom [] ar ss = 0 := rfl
theorem prod_b {w a : Int} (hw : 1 ≤ w ∧ w ≤ 99) (ha : 1 ≤ a ∧ a ≤ 6) : 1 ≤ w * a ∧ w * a ≤ 594 := by
  have h1 := Int.mul_le_mul hw.1 ha.1 (by omega) (by omega)
  have h2 := Int.mul_le_mul hw.2 ha.2 (by omega) (by omega)
  constructor <;> omega
theorem sg_eq {n code i : Nat} (hi : i < n) (hn : n ≤ 62) (hc : code ≤ 4611686018427387904) : 0 ≤ wrap64 (wrap64 ((n : Int) - 1) - (i : Int)) ∧ wrap64 (wrap64 (2 * Go.bits .and .i64 (shr .i64 (code : Int) (wrap64 (wrap64 ((n : Int) - 1) - (i : Int)))) 1) - 1) = sgn code (n - 1 - i) := by
  have e : wrap64 (wrap64 ((n : Int) - 1) - (i : Int)) = ((n - 1 - i : Nat) : Int) := by
    rw [w64 (x := (n : Int) - 1) (by omega) (by omega), w64 (by omega) (by omega)]; omega
  refine ⟨by rw [e]; omega, ?_⟩
  rw [bitN code e hc (by omega)]
  unfold sgn
  split
  · unfold wrap64; omega
  · unfold wrap64; omega
theorem wrapI {i n : Nat} (h : i < n) (hn : n ≤ 4096) : wrap64 ((i : Int) + 1) = ((i + 1 : Nat) : Int) := wrapS h (by omega)
theorem code_le {n code : Nat} (hn : n ≤ 12) (hc : code < 2 ^ n) : code ≤ 4611686018427387904 := by
  have : 2 ^ n ≤ 2 ^ 12 := Nat.pow_le_pow_right (by decide) hn
  omega
theorem signs_l0 {n code : Nat} (hn : n ≤ 12) (hc : code < 2 ^ n) : ∀ i, i ≤ n → ∀ s : List Int, s.length = i → Ev (fun k => spec_l9Signs.l0 k (n : Int) (code : Int) s (i : Int)) (s ++ tiltS (n - i) code) := by
  refine downTo n ?_ ?_
  · intro s hs
    exact Ev.step (fun k => by simp only [spec_l9Signs.l0]; exact rfl) (ifn (by omega) (done (by rw [Nat.sub_self]; simp [tiltS])))
  · intro i hi ih s hs
    obtain ⟨g1, g2⟩ := sg_eq hi (by omega) (code_le hn hc)
    have e2 := ih (s ++ [sgn code (n - 1 - i)]) (by simp [hs])
    refine Ev.step (fun k => by simp only [spec_l9Signs.l0]; exact rfl) (ifp (by omega) (ifp g1 (ifp (by omega) ?_)))
    rw [g2, wrapS hi (by omega)]
    rw [show n - i = (n - (i + 1)) + 1 from by omega]
    unfold tiltS
    rw [show n - (i + 1) = n - 1 - i from by omega] at e2 ⊢
    rw [List.append_assoc] at e2
    exact e2
theorem signs_ev {n code : Nat} (hn : n ≤ 12) (hc : code < 2 ^ n) : Ev (fun k => spec_l9Signs.f k (n : Int) (code : Int)) (tiltS n code) := by
  have := signs_l0 hn hc 0 (Nat.zero_le _) [] rfl
  rw [Nat.sub_zero, List.nil_append] at this
  exact this
theorem mom_drop {ws ar ss : List Int} {i : Nat} (h1 : i < ws.length) (h2 : i < ar.length) (h3 : i < ss.length) : mom (ws.drop i) (ar.drop i) (ss.drop i) = ws[i] * ar[i] * ss[i] + mom (ws.drop (i + 1)) (ar.drop (i + 1)) (ss.drop (i + 1)) := by
  rw [drop_cons h1, drop_cons h2, drop_cons h3]; rfl
theorem term_b {w a s : Int} (hw : 1 ≤ w ∧ w ≤ 99) (ha : 1 ≤ a ∧ a ≤ 6) (hs : s = 1 ∨ s = -1) : -594 ≤ w * a * s ∧ w * a * s ≤ 594 := by
  have := prod_b hw ha
  rcases hs with rfl | rfl
  · rw [Int.mul_one]; omega
  · rw [Int.mul_neg, Int.mul_one]; omega
/-- What is known of weights and arms. -/
structure Ok (ws ar : List Int) : Prop where
  la : ar.length = ws.length
  lw : ws.length ≤ 12
  ha : ∀ x ∈ ar, 1 ≤ x ∧ x ≤ 6
  hw : ∀ x ∈ ws, 1 ≤ x ∧ x ≤ 99
theorem Ok.of {ws ar : List Int} (h : ArmsOK ws ar = true) : Ok ws ar := by
  obtain ⟨h1, h2, h3, h4⟩ := armsV h
  exact ⟨h1, h2, h3, h4⟩
theorem moment_l0 {ws ar ss : List Int} (o : Ok ws ar) (hl : ss.length = ws.length) (hs : ∀ x ∈ ss, x = 1 ∨ x = -1) : ∀ i, i ≤ ws.length → ∀ m : Int, -594 * (i : Int) ≤ m → m ≤ 594 * (i : Int) → Ev (fun k => spec_l9Moment.l0 k ws ar ss m (i : Int)) (m + mom (ws.drop i) (ar.drop i) (ss.drop i)) := by
  have h1 := o.la; have h2 := o.lw
  refine downTo ws.length ?_ ?_
  · intro m _ _
    refine Ev.step (fun k => by simp only [spec_l9Moment.l0]; exact rfl) (ifn (by omega) (done ?_))
    rw [List.drop_length, mom_nilw, Int.add_zero]
  · intro i hi ih m hm1 hm2
    have a1 : i < ar.length := by omega
    have a2 : i < ss.length := by omega
    have hW := o.hw ws[i] (List.getElem_mem hi)
    have hA := o.ha ar[i] (List.getElem_mem a1)
    have t := term_b hW hA (hs ss[i] (List.getElem_mem a2))
    have q := prod_b hW hA
    have e := ih (m + ws[i] * ar[i] * ss[i]) (by omega) (by omega)
    refine Ev.step (fun k => by simp only [spec_l9Moment.l0]; exact rfl) (ifp (by omega) (ifp (by omega) (ifp (by omega) (ifp (by omega) ?_))))
    rw [rd_lt hi, rd_lt a1, rd_lt a2, w64 (x := ws[i] * ar[i]) (by omega) (by omega), w64 (x := ws[i] * ar[i] * ss[i]) (by omega) (by omega), w64 (x := m + _) (by omega) (by omega), wrapS hi (by omega), mom_drop hi a1 a2, ← Int.add_assoc]
    exact e
theorem moment_ev {ws ar ss : List Int} (o : Ok ws ar) (hl : ss.length = ws.length) (hs : ∀ x ∈ ss, x = 1 ∨ x = -1) : Ev (fun k => spec_l9Moment.f k ws ar ss) (mom ws ar ss) := by
  have := moment_l0 o hl hs 0 (Nat.zero_le _) 0 (by omega) (by omega)
  rw [Int.zero_add, List.drop_zero, List.drop_zero, List.drop_zero] at this
  exact this
theorem mom_b {ws ar ss : List Int} (ha : ∀ x ∈ ar, 1 ≤ x ∧ x ≤ 6) (hw : ∀ x ∈ ws, 1 ≤ x ∧ x ≤ 99) (hs : ∀ x ∈ ss, x = 1 ∨ x = -1) : -594 * (ws.length : Int) ≤ mom ws ar ss ∧ mom ws ar ss ≤ 594 * (ws.length : Int) := by
  induction ws generalizing ar ss with
  | nil => simp [mom]
  | cons w ws ih =>
    cases ar with
    | nil => simp [mom]; omega
    | cons a ar =>
      cases ss with
      | nil => simp [mom]; omega
      | cons s ss =>
        have h := ih (ar := ar) (ss := ss) (fun x hx => ha x (List.mem_cons_of_mem _ hx)) (fun x hx => hw x (List.mem_cons_of_mem _ hx)) (fun x hx => hs x (List.mem_cons_of_mem _ hx))
        have t := term_b (hw w (List.mem_cons_self ..)) (ha a (List.mem_cons_self ..)) (hs s (List.mem_cons_self ..))
        simp only [mom, List.length_cons]
        omega
/-- The bits below a place are those of the rest. -/
theorem tiltS_add (j c : Nat) : ∀ i, i ≤ j → tiltS i (2 ^ j + c) = tiltS i c := by
  intro i
  induction i with
  | zero => intro _; rfl
  | succ i ih =>
    intro hi
    unfold tiltS
    rw [ih (by omega)]
    unfold sgn
    rw [Nat.testBit_two_pow_add_gt (by omega)]
theorem sgn_low {j c : Nat} (h : c < 2 ^ j) : sgn c j = -1 := by unfold sgn; rw [Nat.testBit_lt_two_pow h]; rfl
theorem sgn_high {j c : Nat} (h : c < 2 ^ j) : sgn (2 ^ j + c) j = 1 := by unfold sgn; rw [Nat.testBit_two_pow_add_eq, Nat.testBit_lt_two_pow h]; rfl
theorem tiltS_full : ∀ n j, j ≤ n → tiltS j (2 ^ n - 1) = List.replicate j 1 := by
  intro n j
  induction j with
  | zero => intro _; rfl
  | succ j ih =>
    intro h
    unfold tiltS
    rw [ih (by omega), List.replicate_succ]
    unfold sgn
    rw [full_bit (by omega)]
    rfl
end Go.Proofs.Ytkedfmmmjopofaa.PureTilts
