/- Functions of the program as plain Lean functions, each with the proof that the machine's call does what it says: written by a program of this session out of the translation. -/
import Derived.Test.YtkedfmmmjopofaaXCtx0
import Derived.Test.YtkedfmmmjopofaaXCtx4
namespace Go.Proofs.Ytkedfmmmjopofaa.XCt
open Go.RowKit Go.Proofs.YtkedfmmmjopofaaW.PrintWords Go.Proofs.YtkedfmmmjopofaaW.PrintLast Go.Proofs.YtkedfmmmjopofaaW.PrintMore
attribute [local go_sem] max2_int min2_int max_two min_two max_three min_three max_four min_four   -- for this text's walks alone
set_option linter.unusedVariables false
set_option linter.unusedSimpArgs false

/-! ### slices_IndexFunc_areArms_1: function 89 -/
def slices_IndexFunc_areArms_1.l0 : Nat → List Int → Int → Int → Option (Int)
 | 0, _, _, _ => none
 | k + 1, x0, x7, x8 => if x8 < x7 then (if 0 ≤ x8 then (if x8 < (x0.length : Int) then ((impl_areArms_1.f (rd x0 x8)).bind fun t146 => (if t146 = true then (some x8) else (slices_IndexFunc_areArms_1.l0 k x0 x7 (wrap64 (x8 + 1))))) else (none)) else (none)) else (some (-1))
def slices_IndexFunc_areArms_1.f (k : Nat) (l0 : List Int) : Option (Int) := slices_IndexFunc_areArms_1.l0 k l0 (l0.length : Int) 0
theorem slices_IndexFunc_areArms_1.mono_l : ∀ k, (∀ y0 y1 y2, LeO (slices_IndexFunc_areArms_1.l0 k y0 y1 y2) (slices_IndexFunc_areArms_1.l0 (k + 1) y0 y1 y2))
 | 0 => fun _ _ _ r h => by simp [slices_IndexFunc_areArms_1.l0] at h
 | k + 1 => by
  have ih0 := slices_IndexFunc_areArms_1.mono_l k
  ·intro y0 y1 y2
   unfold slices_IndexFunc_areArms_1.l0
   repeat' first
   | (with_reducible exact ih0 _ _ _)
   | (with_reducible exact LeO.refl _)
   | (with_reducible exact LeO.none _)
   | (with_reducible refine LeO.ite ?_ ?_)
   | (with_reducible refine LeO.bind ?_ (fun _ => ?_))
theorem slices_IndexFunc_areArms_1.mono : ∀ a0 k, LeO (slices_IndexFunc_areArms_1.f k a0) (slices_IndexFunc_areArms_1.f (k + 1) a0) := by
 intro a0 k; have ih0 := slices_IndexFunc_areArms_1.mono_l k
 unfold slices_IndexFunc_areArms_1.f
 repeat' first
   | (with_reducible exact ih0 _ _ _)
   | (with_reducible exact LeO.refl _)
   | (with_reducible exact LeO.none _)
   | (with_reducible refine LeO.ite ?_ ?_)
   | (with_reducible refine LeO.bind ?_ (fun _ => ?_))
set_option maxHeartbeats 8000000 in
set_option maxRecDepth 100000 in
theorem slices_IndexFunc_areArms_1.calls (k : Nat) (A0 : Option Addr) (c0 : Nat) (l0 : List Int) (r : Int) (w : World) (hr0 : Kd.C (Kd.int .i64) w A0 l0.length l0) (hc0 : l0.length ≤ c0) (h : slices_IndexFunc_areArms_1.f k l0 = some r) :
  Calls Try.prog 89 #[.slice A0 l0.length c0, .func (.func 76) #[] #[]] w fun e w' => e = .returned (.int .i64 r) ∧ Drawn0 w w' := by
 have HR0 := Aside0.mk hr0; have HC0 := Aside0.mk hc0; clear hr0 hc0; have H : (slices_IndexFunc_areArms_1.l0 k l0 (l0.length : Int) 0) = some r := h; clear h; have H' := Aside0.mk H; clear H
 go_enter Try.func89, Try.ntmps89
 go_wp2
 go_loopg [8] k (fun kq v8 w' => ∃ (x8_1 : Int), v8 = .int .i64 x8_1 ∧ Aside0 (slices_IndexFunc_areArms_1.l0 kq l0 (l0.length : Int) x8_1 = some r) ∧ Aside0 (kq ≤ k) ∧ Drawn0 w w')
 case atStart => exact ⟨(0), (by first | rfl | (simp; done) | (simp [*]; done)), H', ⟨Nat.le_refl _⟩, by repeat (first | exact Drawn0.refl _ | apply Drawn0.step)⟩
 case round =>
  clear H'; obtain ⟨x8_1, rfl, HA, HK1, ⟨m1, rfl⟩⟩ := hrel
  cases gk with
  | zero => exact absurd HA.out (by simp [slices_IndexFunc_areArms_1.l0])
  | succ k1 =>
   have H := HA.out; clear HA; simp only [slices_IndexFunc_areArms_1.l0] at H
   by_cases c2 : x8_1 < (l0.length : Int)
   ·rw [if_pos c2] at H
    have c2b0 : decide (x8_1 < (l0.length : Int)) = true := decide_eq_true c2; clear c2
    by_cases c3 : 0 ≤ x8_1
    ·rw [if_pos c3] at H
     have c3b0 : decide (0 ≤ x8_1) = true := decide_eq_true c3; clear c3
     by_cases c4 : x8_1 < (l0.length : Int)
     ·rw [if_pos c4] at H
      have c4b0 : decide (x8_1 < (l0.length : Int)) = true := decide_eq_true c4; clear c4; replace H := Option.bind_eq_some_iff.mp H; obtain ⟨t146, A50, H⟩ := H; replace H : (if t146 = true then (some x8_1) else (slices_IndexFunc_areArms_1.l0 k1 l0 (l0.length : Int) (wrap64 (x8_1 + 1)))) = some r := H; have A5 := Aside0.mk A50; clear A50
      by_cases c6 : t146 = true
      ·subst c6
       have H1 : (some x8_1) = some r := by rw [if_pos rfl] at H; exact H
       clear H; have H := H1; clear H1; obtain rfl := Option.some.inj H; have p145 : 0 ≤ (x8_1 : Int) := of_decide_eq_true (by first | (with_reducible assumption) | assumption); have q145 : x8_1 < (l0.length : Int) := of_decide_eq_true (by first | (with_reducible assumption) | assumption); obtain ⟨ad145, e145, hx145_0⟩ := Kd.at_int HR0.out x8_1 p145 q145; cases e145; replace p145 := eq_true p145; replace q145 := eq_true q145
       go_wp2_with (first | (go_at_call 76; (with_reducible refine (impl_areArms_1.calls (rd l0 x8_1) true _ A5.out).mono ?_); rintro e w' ⟨rfl, ⟨nd, rfl⟩⟩))
       go_ret; exact ⟨by first | rfl | (simp; done) | (simp [*]; done), by repeat (first | exact Drawn0.refl _ | apply Drawn0.step)⟩
      ·replace c6 := Bool.eq_false_iff.mpr c6
       subst c6
       have H1 : (slices_IndexFunc_areArms_1.l0 k1 l0 (l0.length : Int) (wrap64 (x8_1 + 1))) = some r := by rw [if_neg (show ¬ (false = true) by decide)] at H; exact H
       clear H; have H := H1; clear H1; have H' := Aside0.mk H; clear H; have p145 : 0 ≤ (x8_1 : Int) := of_decide_eq_true (by first | (with_reducible assumption) | assumption); have q145 : x8_1 < (l0.length : Int) := of_decide_eq_true (by first | (with_reducible assumption) | assumption); obtain ⟨ad145, e145, hx145_0⟩ := Kd.at_int HR0.out x8_1 p145 q145; cases e145; replace p145 := eq_true p145; replace q145 := eq_true q145
       go_wp2_with (first | (go_at_call 76; (with_reducible refine (impl_areArms_1.calls (rd l0 x8_1) false _ A5.out).mono ?_); rintro e w' ⟨rfl, ⟨nd, rfl⟩⟩))
       go_roundg k1
       case measure => have := HK1.out; omega
       case rel => exact ⟨(wrap64 (x8_1 + 1)), (by first | rfl | (simp; done) | (simp [*]; done)), H', ⟨by have := HK1.out; omega⟩, by repeat (first | exact Drawn0.refl _ | apply Drawn0.step)⟩
     ·rw [if_neg c4] at H
      exact absurd H (by simp)
    ·rw [if_neg c3] at H
     exact absurd H (by simp)
   ·rw [if_neg c2] at H
    have c2b0 : decide (x8_1 < (l0.length : Int)) = false := decide_eq_false c2; clear c2; obtain rfl := Option.some.inj H; go_wp2; go_ret; exact ⟨by first | rfl | (simp; done) | (simp [*]; done), by repeat (first | exact Drawn0.refl _ | apply Drawn0.step)⟩

/-! ### slices_ContainsFunc_areArms_1: function 75 -/
def slices_ContainsFunc_areArms_1.f (k : Nat) (l0 : List Int) : Option (Bool) := (slices_IndexFunc_areArms_1.f k l0).bind fun t147 => (some (decide (t147 ≥ 0)))
theorem slices_ContainsFunc_areArms_1.mono : ∀ a0 k, LeO (slices_ContainsFunc_areArms_1.f k a0) (slices_ContainsFunc_areArms_1.f (k + 1) a0) := by
 intro a0 k
 unfold slices_ContainsFunc_areArms_1.f
 repeat' first
   | (with_reducible exact slices_IndexFunc_areArms_1.mono _ _)
   | (with_reducible exact LeO.refl _)
   | (with_reducible exact LeO.none _)
   | (with_reducible refine LeO.ite ?_ ?_)
   | (with_reducible refine LeO.bind ?_ (fun _ => ?_))
set_option maxHeartbeats 8000000 in
set_option maxRecDepth 100000 in
theorem slices_ContainsFunc_areArms_1.calls (k : Nat) (A0 : Option Addr) (c0 : Nat) (l0 : List Int) (r : Bool) (w : World) (hr0 : Kd.C (Kd.int .i64) w A0 l0.length l0) (hc0 : l0.length ≤ c0) (h : slices_ContainsFunc_areArms_1.f k l0 = some r) :
  Calls Try.prog 75 #[.slice A0 l0.length c0, .func (.func 76) #[] #[]] w fun e w' => e = .returned (.bool r) ∧ Drawn0 w w' := by
 have HR0 := Aside0.mk hr0; have HC0 := Aside0.mk hc0; clear hr0 hc0; have H : ((slices_IndexFunc_areArms_1.f k l0).bind fun t147 => (some (decide (t147 ≥ 0)))) = some r := h; clear h; replace H := Option.bind_eq_some_iff.mp H; obtain ⟨t147, A20, H⟩ := H; replace H : (some (decide (t147 ≥ 0))) = some r := H; have A2 := Aside0.mk A20; clear A20; obtain rfl := Option.some.inj H
 go_enter Try.func75, Try.ntmps75
 go_wp2_with (first | ((with_reducible refine gate_callee (f := 89) rfl ?_); refine goesL_ (some 7) rfl rfl Try.func89 (by kernel_rfl) rfl #[.slice A0 l0.length c0, .func (.func 76) #[] #[]] rfl (by (try simp only [List.map_toArray, List.map_cons, List.map_nil]); first | done | rfl | (simp only [List.length_drop, List.length_take]; rfl)) ?_; (with_reducible refine (slices_IndexFunc_areArms_1.calls k _ _ l0 t147 _ ?side1 ?side2 A2.out).mono ?_); (case side1 => repeat (first | exact HR0.out | (with_reducible refine Kd.C_alloc ?_ _) | (with_reducible refine Kd.C_drewN ?_ _) | (with_reducible refine Kd.C_drew ?_))); (case side2 => exact HC0.out); rintro e w' ⟨rfl, ⟨nd, rfl⟩⟩; refine ⟨_, rfl, ?_⟩))
 go_ret; exact ⟨by first | rfl | (simp; done) | (simp [*]; done), by repeat (first | exact Drawn0.refl _ | apply Drawn0.step)⟩

/-! ### impl_areArms: function 43 -/
def impl_areArms.f (k : Nat) (l0 : List Int) (l1 : List Int) : Option (Bool) := (impl_areWeights.f k l0).bind fun t148 => (if t148 = true then (if (l1.length : Int) = (l0.length : Int) then ((slices_ContainsFunc_areArms_1.f k l1).bind fun t149 => (some (!t149))) else (some false)) else (some false))
theorem impl_areArms.mono : ∀ a0 a1 k, LeO (impl_areArms.f k a0 a1) (impl_areArms.f (k + 1) a0 a1) := by
 intro a0 a1 k
 unfold impl_areArms.f
 repeat' first
   | (with_reducible exact impl_areWeights.mono _ _)
   | (with_reducible exact slices_ContainsFunc_areArms_1.mono _ _)
   | (with_reducible exact LeO.refl _)
   | (with_reducible exact LeO.none _)
   | (with_reducible refine LeO.ite ?_ ?_)
   | (with_reducible refine LeO.bind ?_ (fun _ => ?_))
set_option maxHeartbeats 8000000 in
set_option maxRecDepth 100000 in
theorem impl_areArms.calls (k : Nat) (A0 : Option Addr) (c0 : Nat) (l0 : List Int) (A1 : Option Addr) (c1 : Nat) (l1 : List Int) (r : Bool) (w : World) (hr0 : Kd.C (Kd.int .i64) w A0 l0.length l0) (hc0 : l0.length ≤ c0) (hr1 : Kd.C (Kd.int .i64) w A1 l1.length l1) (hc1 : l1.length ≤ c1) (h : impl_areArms.f k l0 l1 = some r) :
  Calls Try.prog 43 #[.slice A0 l0.length c0, .slice A1 l1.length c1] w fun e w' => e = .returned (.bool r) ∧ Drawn0 w w' := by
 have HR0 := Aside0.mk hr0; have HC0 := Aside0.mk hc0; clear hr0 hc0; have HR1 := Aside0.mk hr1; have HC1 := Aside0.mk hc1; clear hr1 hc1; have H : ((impl_areWeights.f k l0).bind fun t148 => (if t148 = true then (if (l1.length : Int) = (l0.length : Int) then ((slices_ContainsFunc_areArms_1.f k l1).bind fun t149 => (some (!t149))) else (some false)) else (some false))) = some r := h; clear h; replace H := Option.bind_eq_some_iff.mp H; obtain ⟨t148, A30, H⟩ := H; replace H : (if t148 = true then (if (l1.length : Int) = (l0.length : Int) then ((slices_ContainsFunc_areArms_1.f k l1).bind fun t149 => (some (!t149))) else (some false)) else (some false)) = some r := H; have A3 := Aside0.mk A30; clear A30
 by_cases c4 : t148 = true
 ·subst c4
  have H1 : (if (l1.length : Int) = (l0.length : Int) then ((slices_ContainsFunc_areArms_1.f k l1).bind fun t149 => (some (!t149))) else (some false)) = some r := by rw [if_pos rfl] at H; exact H
  clear H; have H := H1; clear H1
  by_cases c5 : (l1.length : Int) = (l0.length : Int)
  ·rw [if_pos c5] at H
   have c5b0 : ((l1.length : Int) == (l0.length : Int)) = true := beq_iff_eq.mpr c5; have c5b1 : ((l1.length : Int) != (l0.length : Int)) = false := bne_eq_false_iff_eq.mpr c5
   have c5b2 : (l1.length == l0.length) = true := by first | simpa using c5 | (simp at c5 ⊢; omega)
   clear c5; replace H := Option.bind_eq_some_iff.mp H; obtain ⟨t149, A60, H⟩ := H; replace H : (some (!t149)) = some r := H; have A6 := Aside0.mk A60; clear A60; obtain rfl := Option.some.inj H
   go_enter Try.func43, Try.ntmps43
   go_wp2_with (first | ((with_reducible refine gate_callee (f := 70) rfl ?_); refine goesL_ (some 6) rfl rfl Try.func70 (by kernel_rfl) rfl #[.slice A0 l0.length c0] rfl (by (try simp only [List.map_toArray, List.map_cons, List.map_nil]); first | done | rfl | (simp only [List.length_drop, List.length_take]; rfl)) ?_; (with_reducible refine (impl_areWeights.calls k _ _ l0 true _ ?side1 ?side2 A3.out).mono ?_); (case side1 => repeat (first | exact HR0.out | (with_reducible refine Kd.C_alloc ?_ _) | (with_reducible refine Kd.C_drewN ?_ _) | (with_reducible refine Kd.C_drew ?_))); (case side2 => exact HC0.out); rintro e w' ⟨rfl, ⟨nd, rfl⟩⟩; refine ⟨_, rfl, ?_⟩) | (go_at_call 75; (with_reducible refine (slices_ContainsFunc_areArms_1.calls k _ _ l1 t149 _ ?side1 ?side2 A6.out).mono ?_); (case side1 => repeat (first | exact HR1.out | (with_reducible refine Kd.C_alloc ?_ _) | (with_reducible refine Kd.C_drewN ?_ _) | (with_reducible refine Kd.C_drew ?_))); (case side2 => exact HC1.out); rintro e w' ⟨rfl, ⟨nd, rfl⟩⟩))
   go_ret; exact ⟨by first | rfl | (simp; done) | (simp [*]; done), by repeat (first | exact Drawn0.refl _ | apply Drawn0.step)⟩
  ·rw [if_neg c5] at H
   have c5b0 : ((l1.length : Int) == (l0.length : Int)) = false := beq_eq_false_iff_ne.mpr c5; have c5b1 : ((l1.length : Int) != (l0.length : Int)) = true := bne_iff_ne.mpr c5
   have c5b2 : (l1.length == l0.length) = false := by first | simpa using c5 | (simp at c5 ⊢; omega)
   obtain rfl := Option.some.inj H
   go_enter Try.func43, Try.ntmps43
   go_wp2_with (first | ((with_reducible refine gate_callee (f := 70) rfl ?_); refine goesL_ (some 6) rfl rfl Try.func70 (by kernel_rfl) rfl #[.slice A0 l0.length c0] rfl (by (try simp only [List.map_toArray, List.map_cons, List.map_nil]); first | done | rfl | (simp only [List.length_drop, List.length_take]; rfl)) ?_; (with_reducible refine (impl_areWeights.calls k _ _ l0 true _ ?side1 ?side2 A3.out).mono ?_); (case side1 => repeat (first | exact HR0.out | (with_reducible refine Kd.C_alloc ?_ _) | (with_reducible refine Kd.C_drewN ?_ _) | (with_reducible refine Kd.C_drew ?_))); (case side2 => exact HC0.out); rintro e w' ⟨rfl, ⟨nd, rfl⟩⟩; refine ⟨_, rfl, ?_⟩))
   go_ret; exact ⟨by first | rfl | (simp; done) | (simp [*]; done), by repeat (first | exact Drawn0.refl _ | apply Drawn0.step)⟩
 ·replace c4 := Bool.eq_false_iff.mpr c4
  subst c4
  have H1 : (some false) = some r := by rw [if_neg (show ¬ (false = true) by decide)] at H; exact H
  clear H; have H := H1; clear H1; obtain rfl := Option.some.inj H
  go_enter Try.func43, Try.ntmps43
  go_wp2_with (first | ((with_reducible refine gate_callee (f := 70) rfl ?_); refine goesL_ (some 6) rfl rfl Try.func70 (by kernel_rfl) rfl #[.slice A0 l0.length c0] rfl (by (try simp only [List.map_toArray, List.map_cons, List.map_nil]); first | done | rfl | (simp only [List.length_drop, List.length_take]; rfl)) ?_; (with_reducible refine (impl_areWeights.calls k _ _ l0 false _ ?side1 ?side2 A3.out).mono ?_); (case side1 => repeat (first | exact HR0.out | (with_reducible refine Kd.C_alloc ?_ _) | (with_reducible refine Kd.C_drewN ?_ _) | (with_reducible refine Kd.C_drew ?_))); (case side2 => exact HC0.out); rintro e w' ⟨rfl, ⟨nd, rfl⟩⟩; refine ⟨_, rfl, ?_⟩))
  go_ret; exact ⟨by first | rfl | (simp; done) | (simp [*]; done), by repeat (first | exact Drawn0.refl _ | apply Drawn0.step)⟩

/-! ### impl_CountTilts_1: function 46, by hand -/
/-- What the closure counts behind one tilt. -/
def impl_CountTilts_1.f (m0 : Int) (l : List Int) (a1 s : Int) : Option Int := some (if a1 = m0 then wrap64 (s + 1) else s)
/-- The two variables that the closure holds: the moment that is asked, and how many have it. -/
def impl_CountTilts_1.J (w0 : World) (g1 g2 : Nat) (m0 : Int) (w : World) (s : Int) : Prop :=
 Below w0.heap.size w0 w ∧ w.heap[g1]? = some (.cells #[.int .i64 m0] 3 (0, 0)) ∧ w.heap[g2]? = some (.cells #[.int .i64 s] 3 (0, 0)) ∧ g1 ≠ g2 ∧ w0.heap.size ≤ g2
theorem impl_CountTilts_1.J_base {w0 w : World} {g1 g2 : Nat} {m0 s : Int} (h : impl_CountTilts_1.J w0 g1 g2 m0 w s) : Below w0.heap.size w0 w := h.1
theorem impl_CountTilts_1.J_below {w0 w w1 : World} {g1 g2 : Nat} {m0 s : Int} (h : impl_CountTilts_1.J w0 g1 g2 m0 w s) (hb : Below w.heap.size w w1) : impl_CountTilts_1.J w0 g1 g2 m0 w1 s :=
 ⟨below_step h.1 hb, blk_below h.2.1 hb, blk_below h.2.2.1 hb, h.2.2.2.1, h.2.2.2.2⟩
theorem impl_CountTilts_1.J_alloc {w0 w : World} {g1 g2 : Nat} {m0 s : Int} (h : impl_CountTilts_1.J w0 g1 g2 m0 w s) (o : Obj) : impl_CountTilts_1.J w0 g1 g2 m0 (w.alloc o) s := impl_CountTilts_1.J_below h (below_alloc (Below.refl _ _) o)
theorem impl_CountTilts_1.J_drewN {w0 w : World} {g1 g2 : Nat} {m0 s : Int} (h : impl_CountTilts_1.J w0 g1 g2 m0 w s) (m : Nat) : impl_CountTilts_1.J w0 g1 g2 m0 (w.drewN m) s := impl_CountTilts_1.J_below h (pw_below_drewN (Below.refl _ _) m)
theorem impl_CountTilts_1.J_drew {w0 w : World} {g1 g2 : Nat} {m0 s : Int} (h : impl_CountTilts_1.J w0 g1 g2 m0 w s) : impl_CountTilts_1.J w0 g1 g2 m0 w.drew s := impl_CountTilts_1.J_below h (below_drew (Below.refl _ _))
theorem impl_CountTilts_1.J_set {w0 w : World} {g1 g2 : Nat} {m0 s : Int} (h : impl_CountTilts_1.J w0 g1 g2 m0 w s) (x : Int) : impl_CountTilts_1.J w0 g1 g2 m0 (w.setCell ⟨g2, 0, none⟩ (.int .i64 x)) x :=
 ⟨below_set h.1 h.2.2.2.2, blk_far h.2.1 h.2.2.2.1 _, by simpa using blk_set h.2.2.1 0 (.int .i64 x), h.2.2.2.1, h.2.2.2.2⟩
set_option maxHeartbeats 8000000 in
set_option maxRecDepth 100000 in
theorem impl_CountTilts_1.calls (g1 g2 : Nat) (m0 : Int) (v : Value) (l : List Int) (a1 s r : Int) (w0 w1 w : World) (hJ : impl_CountTilts_1.J w0 g1 g2 m0 w1 s) (hB : Below w1.heap.size w1 w) (ho : Kd.R (Kd.int .i64) 3 w w1.heap.size (fun _ => True) v l) (h : impl_CountTilts_1.f m0 l a1 s = some r) :
  Calls Try.prog 46 #[v, .int .i64 a1, .pointer (some ⟨g1, 0, none⟩), .pointer (some ⟨g2, 0, none⟩)] w fun e w' => e = .returned (.tuple #[]) ∧ impl_CountTilts_1.J w0 g1 g2 m0 w' r := by
 clear ho; have hj := impl_CountTilts_1.J_below hJ hB; have HJ := Aside0.mk hj; have c1 := blk_cell hj.2.1 0; have c2 := blk_cell hj.2.2.1 0; replace c1 : w.cell? ⟨g1, 0, none⟩ = some (.int .i64 m0) := c1.trans rfl; replace c2 : w.cell? ⟨g2, 0, none⟩ = some (.int .i64 s) := c2.trans rfl; have f1 := blk_frozen hj.2.1 0; have f2 := blk_frozen hj.2.2.1 0; clear hj hJ hB; replace h := Option.some.inj h
 by_cases c : a1 = m0
 ·rw [if_pos c] at h
  have cb : (a1 == m0) = true := beq_iff_eq.2 c; clear c; have Hh := Aside0.mk h; clear h
  go_enter Try.func46, Try.ntmps46
  go_wp2
  first | go_end0 | ((try simp only [Exit.inBlock, Exit.then]); refine bodyPost_ret (results_none rfl _ _ _) rfl ?_)
  exact ⟨by first | rfl | (simp <;> rfl), by rw [← Hh.out]; exact impl_CountTilts_1.J_set (by repeat (first | exact HJ.out | apply impl_CountTilts_1.J_alloc | apply impl_CountTilts_1.J_drewN | apply impl_CountTilts_1.J_drew)) _⟩
 ·rw [if_neg c] at h
  have cb : (a1 == m0) = false := beq_eq_false_iff_ne.2 c; clear c; have Hh := Aside0.mk h; clear h
  go_enter Try.func46, Try.ntmps46
  go_wp2
  first | go_end0 | ((try simp only [Exit.inBlock, Exit.then]); refine bodyPost_ret (results_none rfl _ _ _) rfl ?_)
  exact ⟨by first | rfl | (simp <;> rfl), by rw [← Hh.out]; repeat (first | exact HJ.out | apply impl_CountTilts_1.J_alloc | apply impl_CountTilts_1.J_drewN | apply impl_CountTilts_1.J_drew)⟩

end Go.Proofs.Ytkedfmmmjopofaa.XCt
