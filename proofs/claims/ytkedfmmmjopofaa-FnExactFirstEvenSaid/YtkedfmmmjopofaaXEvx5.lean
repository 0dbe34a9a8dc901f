/- Functions of the program as plain Lean functions, each with the proof that the machine's call does what it says: written by a program of this session out of the translation. -/
import Derived.Lib.SliceRun
import Derived.Test.YtkedfmmmjopofaaXEvx0
import Derived.Test.YtkedfmmmjopofaaXEvx4
namespace Go.Proofs.Ytkedfmmmjopofaa.XEv
open Go.RowKit Go.Proofs.YtkedfmmmjopofaaW.PrintWords Go.Proofs.YtkedfmmmjopofaaW.PrintLast Go.Proofs.YtkedfmmmjopofaaW.PrintMore
attribute [local go_sem] max2_int min2_int max_two min_two max_three min_three max_four min_four   -- for this text's walks alone
set_option linter.unusedVariables false
set_option linter.unusedSimpArgs false

/-! ### impl_canSeat: function 62 -/
def impl_canSeat.f (k : Nat) (l0 : List Int) (a1 : Int) : Option (Bool) := (impl_areWeights.f k l0).bind fun t160 => (if t160 = true then ((impl_isSeats.f a1).bind fun t161 => (if t161 = true then (some (decide ((l0.length : Int) ≤ 6))) else (some false))) else (some false))
theorem impl_canSeat.mono : ∀ a0 a1 k, LeO (impl_canSeat.f k a0 a1) (impl_canSeat.f (k + 1) a0 a1) := by
 intro a0 a1 k
 unfold impl_canSeat.f
 repeat' first
   | (with_reducible exact impl_areWeights.mono _ _)
   | (with_reducible exact LeO.refl _)
   | (with_reducible exact LeO.none _)
   | (with_reducible refine LeO.ite ?_ ?_)
   | (with_reducible refine LeO.bind ?_ (fun _ => ?_))
set_option maxHeartbeats 8000000 in
set_option maxRecDepth 100000 in
theorem impl_canSeat.calls (k : Nat) (A0 : Option Addr) (c0 : Nat) (l0 : List Int) (a1 : Int) (r : Bool) (w : World) (hr0 : Kd.C (Kd.int .i64) w A0 l0.length l0) (hc0 : l0.length ≤ c0) (h : impl_canSeat.f k l0 a1 = some r) :
  Calls Try.prog 62 #[.slice A0 l0.length c0, .int .i64 a1] w fun e w' => e = .returned (.bool r) ∧ Drawn0 w w' := by
 have HR0 := Aside0.mk hr0; have HC0 := Aside0.mk hc0; clear hr0 hc0; have H : ((impl_areWeights.f k l0).bind fun t160 => (if t160 = true then ((impl_isSeats.f a1).bind fun t161 => (if t161 = true then (some (decide ((l0.length : Int) ≤ 6))) else (some false))) else (some false))) = some r := h; clear h; replace H := Option.bind_eq_some_iff.mp H; obtain ⟨t160, A30, H⟩ := H; replace H : (if t160 = true then ((impl_isSeats.f a1).bind fun t161 => (if t161 = true then (some (decide ((l0.length : Int) ≤ 6))) else (some false))) else (some false)) = some r := H; have A3 := Aside0.mk A30; clear A30
 by_cases c4 : t160 = true
 ·subst c4
  have H1 : ((impl_isSeats.f a1).bind fun t161 => (if t161 = true then (some (decide ((l0.length : Int) ≤ 6))) else (some false))) = some r := by rw [if_pos rfl] at H; exact H
  clear H; have H := H1; clear H1; replace H := Option.bind_eq_some_iff.mp H; obtain ⟨t161, A50, H⟩ := H; replace H : (if t161 = true then (some (decide ((l0.length : Int) ≤ 6))) else (some false)) = some r := H; have A5 := Aside0.mk A50; clear A50
  by_cases c6 : t161 = true
  ·subst c6
   have H1 : (some (decide ((l0.length : Int) ≤ 6))) = some r := by rw [if_pos rfl] at H; exact H
   clear H; have H := H1; clear H1; obtain rfl := Option.some.inj H
   go_enter Try.func62, Try.ntmps62
   go_wp2_with (first | ((with_reducible refine gate_callee (f := 70) rfl ?_); refine goesL_ (some 6) rfl rfl Try.func70 (by kernel_rfl) rfl #[.slice A0 l0.length c0] rfl (by (try simp only [List.map_toArray, List.map_cons, List.map_nil]); first | done | rfl | (simp only [List.length_drop, List.length_take]; rfl)) ?_; (with_reducible refine (impl_areWeights.calls k _ _ l0 true _ ?side1 ?side2 A3.out).mono ?_); (case side1 => repeat (first | exact HR0.out | (with_reducible refine Kd.C_alloc ?_ _) | (with_reducible refine Kd.C_drewN ?_ _) | (with_reducible refine Kd.C_drew ?_))); (case side2 => exact HC0.out); rintro e w' ⟨rfl, ⟨nd, rfl⟩⟩; refine ⟨_, rfl, ?_⟩) | (go_at_call 71; (with_reducible refine (impl_isSeats.calls a1 true _ A5.out).mono ?_); rintro e w' ⟨rfl, ⟨nd, rfl⟩⟩))
   go_ret; exact ⟨by first | rfl | (simp; done) | (simp [*]; done), by repeat (first | exact Drawn0.refl _ | apply Drawn0.step)⟩
  ·replace c6 := Bool.eq_false_iff.mpr c6
   subst c6
   have H1 : (some false) = some r := by rw [if_neg (show ¬ (false = true) by decide)] at H; exact H
   clear H; have H := H1; clear H1; obtain rfl := Option.some.inj H
   go_enter Try.func62, Try.ntmps62
   go_wp2_with (first | ((with_reducible refine gate_callee (f := 70) rfl ?_); refine goesL_ (some 6) rfl rfl Try.func70 (by kernel_rfl) rfl #[.slice A0 l0.length c0] rfl (by (try simp only [List.map_toArray, List.map_cons, List.map_nil]); first | done | rfl | (simp only [List.length_drop, List.length_take]; rfl)) ?_; (with_reducible refine (impl_areWeights.calls k _ _ l0 true _ ?side1 ?side2 A3.out).mono ?_); (case side1 => repeat (first | exact HR0.out | (with_reducible refine Kd.C_alloc ?_ _) | (with_reducible refine Kd.C_drewN ?_ _) | (with_reducible refine Kd.C_drew ?_))); (case side2 => exact HC0.out); rintro e w' ⟨rfl, ⟨nd, rfl⟩⟩; refine ⟨_, rfl, ?_⟩) | (go_at_call 71; (with_reducible refine (impl_isSeats.calls a1 false _ A5.out).mono ?_); rintro e w' ⟨rfl, ⟨nd, rfl⟩⟩))
   go_ret; exact ⟨by first | rfl | (simp; done) | (simp [*]; done), by repeat (first | exact Drawn0.refl _ | apply Drawn0.step)⟩
 ·replace c4 := Bool.eq_false_iff.mpr c4
  subst c4
  have H1 : (some false) = some r := by rw [if_neg (show ¬ (false = true) by decide)] at H; exact H
  clear H; have H := H1; clear H1; obtain rfl := Option.some.inj H
  go_enter Try.func62, Try.ntmps62
  go_wp2_with (first | ((with_reducible refine gate_callee (f := 70) rfl ?_); refine goesL_ (some 6) rfl rfl Try.func70 (by kernel_rfl) rfl #[.slice A0 l0.length c0] rfl (by (try simp only [List.map_toArray, List.map_cons, List.map_nil]); first | done | rfl | (simp only [List.length_drop, List.length_take]; rfl)) ?_; (with_reducible refine (impl_areWeights.calls k _ _ l0 false _ ?side1 ?side2 A3.out).mono ?_); (case side1 => repeat (first | exact HR0.out | (with_reducible refine Kd.C_alloc ?_ _) | (with_reducible refine Kd.C_drewN ?_ _) | (with_reducible refine Kd.C_drew ?_))); (case side2 => exact HC0.out); rintro e w' ⟨rfl, ⟨nd, rfl⟩⟩; refine ⟨_, rfl, ?_⟩))
  go_ret; exact ⟨by first | rfl | (simp; done) | (simp [*]; done), by repeat (first | exact Drawn0.refl _ | apply Drawn0.step)⟩

/-! ### slices_Index: function 92 -/
def slices_Index.l0 : Nat → List Int → Int → Int → Int → Option (Int)
 | 0, _, _, _, _ => none
 | k + 1, x0, x1, x7, x8 => if x8 < x7 then (if 0 ≤ x8 then (if x8 < (x0.length : Int) then (if x1 = (rd x0 x8) then (some x8) else (slices_Index.l0 k x0 x1 x7 (wrap64 (x8 + 1)))) else (none)) else (none)) else (some (-1))
def slices_Index.f (k : Nat) (l0 : List Int) (a1 : Int) : Option (Int) := slices_Index.l0 k l0 a1 (l0.length : Int) 0
theorem slices_Index.mono_l : ∀ k, (∀ y0 y1 y2 y3, LeO (slices_Index.l0 k y0 y1 y2 y3) (slices_Index.l0 (k + 1) y0 y1 y2 y3))
 | 0 => fun _ _ _ _ r h => by simp [slices_Index.l0] at h
 | k + 1 => by
  have ih0 := slices_Index.mono_l k
  ·intro y0 y1 y2 y3
   unfold slices_Index.l0
   repeat' first
   | (with_reducible exact ih0 _ _ _ _)
   | (with_reducible exact LeO.refl _)
   | (with_reducible exact LeO.none _)
   | (with_reducible refine LeO.ite ?_ ?_)
   | (with_reducible refine LeO.bind ?_ (fun _ => ?_))
theorem slices_Index.mono : ∀ a0 a1 k, LeO (slices_Index.f k a0 a1) (slices_Index.f (k + 1) a0 a1) := by
 intro a0 a1 k; have ih0 := slices_Index.mono_l k
 unfold slices_Index.f
 repeat' first
   | (with_reducible exact ih0 _ _ _ _)
   | (with_reducible exact LeO.refl _)
   | (with_reducible exact LeO.none _)
   | (with_reducible refine LeO.ite ?_ ?_)
   | (with_reducible refine LeO.bind ?_ (fun _ => ?_))
set_option maxHeartbeats 8000000 in
set_option maxRecDepth 100000 in
theorem slices_Index.calls (k : Nat) (A0 : Option Addr) (c0 : Nat) (l0 : List Int) (a1 : Int) (r : Int) (w : World) (hr0 : Kd.C (Kd.int .i64) w A0 l0.length l0) (hc0 : l0.length ≤ c0) (h : slices_Index.f k l0 a1 = some r) :
  Calls Try.prog 92 #[.slice A0 l0.length c0, .int .i64 a1] w fun e w' => e = .returned (.int .i64 r) ∧ Drawn0 w w' := by
 have HR0 := Aside0.mk hr0; have HC0 := Aside0.mk hc0; clear hr0 hc0; have H : (slices_Index.l0 k l0 a1 (l0.length : Int) 0) = some r := h; clear h; have H' := Aside0.mk H; clear H
 go_enter Try.func92, Try.ntmps92
 go_wp2
 go_loopg [8] k (fun kq v8 w' => ∃ (x8_1 : Int), v8 = .int .i64 x8_1 ∧ Aside0 (slices_Index.l0 kq l0 a1 (l0.length : Int) x8_1 = some r) ∧ Aside0 (kq ≤ k) ∧ Drawn0 w w')
 case atStart => exact ⟨(0), (by first | rfl | (simp; done) | (simp [*]; done)), H', ⟨Nat.le_refl _⟩, by repeat (first | exact Drawn0.refl _ | apply Drawn0.step)⟩
 case round =>
  clear H'; (try clear p2); obtain ⟨x8_1, rfl, HA, HK1, ⟨m1, rfl⟩⟩ := hrel
  cases gk with
  | zero => exact absurd HA.out (by simp [slices_Index.l0])
  | succ k1 =>
   have H := HA.out; clear HA; simp only [slices_Index.l0] at H
   by_cases c3 : x8_1 < (l0.length : Int)
   ·rw [if_pos c3] at H
    have c3b0 : decide (x8_1 < (l0.length : Int)) = true := decide_eq_true c3; clear c3
    by_cases c4 : 0 ≤ x8_1
    ·rw [if_pos c4] at H
     have c4b0 : decide (0 ≤ x8_1) = true := decide_eq_true c4; clear c4
     by_cases c5 : x8_1 < (l0.length : Int)
     ·rw [if_pos c5] at H
      have c5b0 : decide (x8_1 < (l0.length : Int)) = true := decide_eq_true c5; clear c5
      by_cases c6 : a1 = (rd l0 x8_1)
      ·rw [if_pos c6] at H
       have c6b0 : (a1 == (rd l0 x8_1)) = true := beq_iff_eq.mpr c6; have c6b1 : (a1 != (rd l0 x8_1)) = false := bne_eq_false_iff_eq.mpr c6; clear c6; obtain rfl := Option.some.inj H; have p162 : 0 ≤ (x8_1 : Int) := of_decide_eq_true (by first | (with_reducible assumption) | assumption); have q162 : x8_1 < (l0.length : Int) := of_decide_eq_true (by first | (with_reducible assumption) | assumption); obtain ⟨ad162, e162, hx162_0⟩ := Kd.at_int HR0.out x8_1 p162 q162; cases e162; replace p162 := eq_true p162; replace q162 := eq_true q162; go_wp2; go_ret; exact ⟨by first | rfl | (simp; done) | (simp [*]; done), by repeat (first | exact Drawn0.refl _ | apply Drawn0.step)⟩
      ·rw [if_neg c6] at H
       have c6b0 : (a1 == (rd l0 x8_1)) = false := beq_eq_false_iff_ne.mpr c6; have c6b1 : (a1 != (rd l0 x8_1)) = true := bne_iff_ne.mpr c6; have H' := Aside0.mk H; clear H; have p162 : 0 ≤ (x8_1 : Int) := of_decide_eq_true (by first | (with_reducible assumption) | assumption); have q162 : x8_1 < (l0.length : Int) := of_decide_eq_true (by first | (with_reducible assumption) | assumption); obtain ⟨ad162, e162, hx162_0⟩ := Kd.at_int HR0.out x8_1 p162 q162; cases e162; replace p162 := eq_true p162; replace q162 := eq_true q162; go_wp2; go_roundg k1
       case measure => have := HK1.out; omega
       case rel => exact ⟨(wrap64 (x8_1 + 1)), (by first | rfl | (simp; done) | (simp [*]; done)), H', ⟨by have := HK1.out; omega⟩, by repeat (first | exact Drawn0.refl _ | apply Drawn0.step)⟩
     ·rw [if_neg c5] at H
      exact absurd H (by simp)
    ·rw [if_neg c4] at H
     exact absurd H (by simp)
   ·rw [if_neg c3] at H
    have c3b0 : decide (x8_1 < (l0.length : Int)) = false := decide_eq_false c3; clear c3; obtain rfl := Option.some.inj H; go_wp2; go_ret; exact ⟨by first | rfl | (simp; done) | (simp [*]; done), by repeat (first | exact Drawn0.refl _ | apply Drawn0.step)⟩

/-! ### slices_Contains: function 87 -/
def slices_Contains.f (k : Nat) (l0 : List Int) (a1 : Int) : Option (Bool) := (slices_Index.f k l0 a1).bind fun t163 => (some (decide (t163 ≥ 0)))
theorem slices_Contains.mono : ∀ a0 a1 k, LeO (slices_Contains.f k a0 a1) (slices_Contains.f (k + 1) a0 a1) := by
 intro a0 a1 k
 unfold slices_Contains.f
 repeat' first
   | (with_reducible exact slices_Index.mono _ _ _)
   | (with_reducible exact LeO.refl _)
   | (with_reducible exact LeO.none _)
   | (with_reducible refine LeO.ite ?_ ?_)
   | (with_reducible refine LeO.bind ?_ (fun _ => ?_))
set_option maxHeartbeats 8000000 in
set_option maxRecDepth 100000 in
theorem slices_Contains.calls (k : Nat) (A0 : Option Addr) (c0 : Nat) (l0 : List Int) (a1 : Int) (r : Bool) (w : World) (hr0 : Kd.C (Kd.int .i64) w A0 l0.length l0) (hc0 : l0.length ≤ c0) (h : slices_Contains.f k l0 a1 = some r) :
  Calls Try.prog 87 #[.slice A0 l0.length c0, .int .i64 a1] w fun e w' => e = .returned (.bool r) ∧ Drawn0 w w' := by
 have HR0 := Aside0.mk hr0; have HC0 := Aside0.mk hc0; clear hr0 hc0; have H : ((slices_Index.f k l0 a1).bind fun t163 => (some (decide (t163 ≥ 0)))) = some r := h; clear h; replace H := Option.bind_eq_some_iff.mp H; obtain ⟨t163, A30, H⟩ := H; replace H : (some (decide (t163 ≥ 0))) = some r := H; have A3 := Aside0.mk A30; clear A30; obtain rfl := Option.some.inj H
 go_enter Try.func87, Try.ntmps87
 go_wp2_with (first | ((with_reducible refine gate_callee (f := 92) rfl ?_); refine goesL_ (some 7) rfl rfl Try.func92 (by kernel_rfl) rfl #[.slice A0 l0.length c0, .int .i64 a1] rfl (by (try simp only [List.map_toArray, List.map_cons, List.map_nil]); first | done | rfl | (simp only [List.length_drop, List.length_take]; rfl)) ?_; (with_reducible refine (slices_Index.calls k _ _ l0 a1 t163 _ ?side1 ?side2 A3.out).mono ?_); (case side1 => repeat (first | exact HR0.out | (with_reducible refine Kd.C_alloc ?_ _) | (with_reducible refine Kd.C_drewN ?_ _) | (with_reducible refine Kd.C_drew ?_))); (case side2 => exact HC0.out); rintro e w' ⟨rfl, ⟨nd, rfl⟩⟩; refine ⟨_, rfl, ?_⟩))
 go_ret; exact ⟨by first | rfl | (simp; done) | (simp [*]; done), by repeat (first | exact Drawn0.refl _ | apply Drawn0.step)⟩

/-! ### slices_Clone: function 66, by hand -/
def slices_Clone.f (l0 : List Int) : Option (List Int) := if l0.length < 8796093022208 then some l0 else none
theorem clone_info : (Try.prog.info? 3).map (fun i => (i.zero, i.size, i.bytes)) = some (some (.int .i64 0), 1, 8) := by kernel_rfl
set_option maxHeartbeats 8000000 in
set_option maxRecDepth 100000 in
theorem slices_Clone.calls (A0 : Option Addr) (c0 : Nat) (l0 : List Int) (r : List Int) (w : World) (hr0 : Kd.C (Kd.int .i64) w A0 l0.length l0) (hc0 : l0.length ≤ c0) (h : slices_Clone.f l0 = some r) :
  Calls Try.prog 66 #[.slice A0 l0.length c0] w fun e w' => ∃ v0_ : Value, e = .returned (v0_) ∧ Kd.R (Kd.int .i64) 3 w' w.heap.size (fun _ => True) v0_ r ∧ Below w.heap.size w w' := by
 unfold slices_Clone.f at h
 by_cases c2 : l0.length < 8796093022208
 case neg => rw [if_neg c2] at h; cases h
 rw [if_pos c2] at h; obtain rfl := Option.some.inj h; clear h; have HS := Aside0.mk c2; clear c2; have HR0 := Aside0.mk hr0; have HC0 := Aside0.mk hc0; clear hr0 hc0; have HB := Aside0.mk (Below.refl w.heap.size w)
 have q : ∀ (w : World) (a : Option Addr) (n c n' c' : Nat), (binOp .eql 22 (.slice a n c) (.slice none n' c')).run Try.prog w = .ok (.bool a.isNone) w := fun w a n c n' c' => Go.Lib.run_eql_slice_nil w _ _ a n c n' c' Try.underlying22
 cases A0 with
 | none =>
  have hn : l0 = [] := by
   cases l0 with
   | nil => rfl
   | cons x l => obtain ⟨_, _, h3⟩ := HR0.out; obtain ⟨ad, e, _⟩ := h3 (by simp); cases e
  subst hn; clear HR0
  go_enter Try.func66, Try.ntmps66
  go_wp2; go_ret; exact ⟨_, rfl, Kd.R_nil _ _ _ _ _, Below.refl _ _⟩
 | some ad =>
  obtain ⟨y1, hy1⟩ : ∃ y_ : List Int, y_ = (([] : List Int)) := ⟨_, rfl⟩; have Ny1 := Aside0.mk hy1; clear hy1; obtain ⟨y2, hy2⟩ : ∃ y_ : List Int, y_ = (y1 ++ l0) := ⟨_, rfl⟩; have Ny2 := Aside0.mk hy2; clear hy2; have er := Aside0.mk (show l0 = y2 by rw [Ny2.out, Ny1.out]; rfl)
  go_enter Try.func66, Try.ntmps66
  go_wp2_with (first
   | ((with_reducible refine gate_dst (N := 5) rfl ?_); refine Kd.R_lit (Kd.int .i64) _ 3 ?hg (N := 5) ?hd (xs := ([] : List Int)) (inner := []) (ok := fun _ => True) (okp := fun _ => True) ?hr ?hp (fun _ hk => hk) trivial (Below.refl _ _) (Nat.le_refl _) (by simp) ?_; (case hd => rfl); (case hg => rfl); (case hr => first | (go_simp; done) | (go_simp; rfl)); (case hp => exact (Reps.none _ _)); intro v1 w8 ho9 hb hg_ hnew_; clear hg_ hnew_; (first | rw [← Ny1.out] at ho9 | (simp only [Int.reduceToNat] at ho9; rw [← Ny1.out] at ho9)); have n0_ := Aside0.mk (Kd.R_lower ho9 (below_size (by repeat (first | (with_reducible first | exact HB.out | apply below_alloc | apply pw_below_drewN | apply below_drew1) | exact HB.out)))); have n1_ := Aside0.mk (below_step (by repeat (first | (with_reducible first | exact HB.out | apply below_alloc | apply pw_below_drewN | apply below_drew1) | exact HB.out)) hb); clear HB; have HO1 := n0_; have HB := n1_; clear n0_ n1_; clear hb ho9)
   | ((with_reducible refine gate_builtin (b := .append) (xs := #[.tmp 5, .tmp 6]) rfl ?_); at_builtin; refine Kd.R_append_rows (Kd.int .i64) (w0 := w) w.heap.size rfl (.tmp 5) (.tmp 6) 22 3 (.int .i64 0) 8 rfl Try.underlying22 clone_info rfl (by decide) (by omega) v1 y1 l0 _ _ _ (fun _ => True) (fun _ => False) rfl rfl ?aO ?aR (fun _ _ h => h) (fun _ h => h.elim) ?aF ?aB ?aS ?aL ?_; (case aR => repeat (first | exact (Kd.C_below HR0.out HB.out) | (with_reducible refine Kd.C_alloc ?_ _) | (with_reducible refine Kd.C_drewN ?_ _) | (with_reducible refine Kd.C_drew ?_))); (case aB => exact (by repeat (first | (with_reducible first | exact HB.out | apply below_alloc | apply pw_below_drewN | apply below_drew1) | exact HB.out))); (case aF => exact (fun _ _ => trivial)); (case aO => exact (by (with_reducible repeat (first | apply Kd.R_alloc | apply Kd.R_drewN | apply Kd.R_drew)); exact HO1.out)); (case aS => exact (below_size (by repeat (first | (with_reducible first | exact HB.out | apply below_alloc | apply pw_below_drewN | apply below_drew1) | exact HB.out)))); (case aL => have := HS.out; rw [Ny1.out]; simp; omega); intro v2 w11 ho hb hg hat; rw [← Ny2.out] at ho; have n0_ := Aside0.mk (hb); have n1_ := Aside0.mk (ho); clear HB; clear HO1; have HB := n0_; have HO2 := n1_; clear n0_ n1_; clear ho hb hg hat))
  go_ret; exact ⟨_, by first | rfl | (simp <;> rfl), by rw [er.out]; (with_reducible repeat (first | apply Kd.R_alloc | apply Kd.R_drewN | apply Kd.R_drew)); exact HO2.out, by repeat (first | (with_reducible first | exact HB.out | apply below_alloc | apply pw_below_drewN | apply below_drew1) | exact HB.out)⟩

/-! ### impl_FirstEven_1: function 65, by hand -/
-- needs 66
/-- What the closure tells of an even seating, and what it holds behind it. -/
def impl_FirstEven_1.f (st : List Int) (s : List Int × Bool) : Option (Bool × (List Int × Bool)) := (slices_Clone.f st).bind fun t => some (false, (t, true))
/-- The two variables that the closure holds, beside the row of seats at ga. -/
def impl_FirstEven_1.J (w0 : World) (g1 g2 ga : Nat) (w : World) (s : List Int × Bool) : Prop :=
 Below w0.heap.size w0 w ∧ (∃ A n c, w.heap[g1]? = some (.cells #[.slice A n c] 22 (0, 0)) ∧ Kd.R (Kd.int .i64) 3 w w0.heap.size (fun k => k ≠ g1 ∧ k ≠ g2 ∧ k ≠ ga) (.slice A n c) s.1) ∧ w.heap[g2]? = some (.cells #[.bool s.2] 4 (0, 0)) ∧ (g1 ≠ g2 ∧ g1 ≠ ga ∧ g2 ≠ ga) ∧ w0.heap.size ≤ g1 ∧ w0.heap.size ≤ g2 ∧ w0.heap.size ≤ ga
theorem impl_FirstEven_1.J_base {w0 w : World} {g1 g2 ga : Nat} {s : List Int × Bool} (h : impl_FirstEven_1.J w0 g1 g2 ga w s) : Below w0.heap.size w0 w := h.1
theorem impl_FirstEven_1.J_ga {w0 w : World} {g1 g2 ga : Nat} {s : List Int × Bool} (h : impl_FirstEven_1.J w0 g1 g2 ga w s) : w0.heap.size ≤ ga := h.2.2.2.2.2.2
theorem impl_FirstEven_1.J_below {w0 w w1 : World} {g1 g2 ga : Nat} {s : List Int × Bool} (h : impl_FirstEven_1.J w0 g1 g2 ga w s) (hb : Below w.heap.size w w1) : impl_FirstEven_1.J w0 g1 g2 ga w1 s := by
 obtain ⟨h1, ⟨A, n, c, h2, h3⟩, h4, h5⟩ := h; exact ⟨below_step h1 hb, ⟨A, n, c, blk_below h2 hb, Kd.R_below h3 hb⟩, blk_below h4 hb, h5⟩
theorem impl_FirstEven_1.J_seat {w0 w : World} {g1 g2 ga : Nat} {s : List Int × Bool} (h : impl_FirstEven_1.J w0 g1 g2 ga w s) (j : Nat) (u : Value) : impl_FirstEven_1.J w0 g1 g2 ga (w.setCell ⟨ga, j, none⟩ u) s := by
 obtain ⟨h1, ⟨A, n, c, h2, h3⟩, h4, h5⟩ := h; exact ⟨below_set h1 h5.2.2.2, ⟨A, n, c, blk_far h2 h5.1.2.1 _, Kd.R_step h3 (fun k hk _ => Below.heap_setCell _ _ _ k hk.2.2)⟩, blk_far h4 h5.1.2.2 _, h5⟩
theorem impl_FirstEven_1.slice_of {w : World} {base : Nat} {ok : Nat → Prop} {v : Value} {l : List Int} (ho : Kd.R (Kd.int .i64) 3 w base ok v l) : ∃ A n c, v = .slice A n c := by
 obtain ⟨_, inner, ⟨_, ho2⟩, _⟩ := ho
 rcases ho2 with ⟨hv, _⟩ | ⟨g, cap, cur, hv, _⟩
 ·exact ⟨_, _, _, hv⟩
 ·exact ⟨_, _, _, hv⟩
theorem impl_FirstEven_1.J_found {w0 w w1 : World} {g1 g2 ga : Nat} {s : List Int × Bool} (hJ : impl_FirstEven_1.J w0 g1 g2 ga w s) (hlt : ga < w.heap.size) (hB : Below w.heap.size w w1) {A : Option Addr} {n c : Nat} {l : List Int} (ho : Kd.R (Kd.int .i64) 3 w1 w.heap.size (fun _ => True) (.slice A n c) l) :
  impl_FirstEven_1.J w0 g1 g2 ga ((w1.setCell ⟨g1, 0, none⟩ (.slice A n c)).setCell ⟨g2, 0, none⟩ (.bool true)) (l, true) ∧ ∀ i, i < w.heap.size → i ≠ g1 → i ≠ g2 → ((w1.setCell ⟨g1, 0, none⟩ (.slice A n c)).setCell ⟨g2, 0, none⟩ (.bool true)).heap[i]? = w.heap[i]? := by
 have l1 : g1 < w.heap.size := by obtain ⟨_, ⟨_, _, _, h3, _⟩, _⟩ := hJ; exact blk_lt h3
 have l2 : g2 < w.heap.size := blk_lt hJ.2.2.1; have hs := hJ.1.size; obtain ⟨h1, ⟨A', n', c', h2, h3⟩, h4, ⟨hne, hn1, hn2⟩, hg1, hg2, hga⟩ := impl_FirstEven_1.J_below hJ hB; refine ⟨⟨below_set (below_set h1 hg1) hg2, ⟨A, n, c, ?_, ?_⟩, ?_, ⟨hne, hn1, hn2⟩, hg1, hg2, hga⟩, fun i hi k1 k2 => ?_⟩
 ·exact blk_far (p := ⟨g2, 0, none⟩) (by simpa using blk_set h2 0 (.slice A n c)) hne _
 ·refine Kd.R_step (w := w1) (Kd.R_lower (Kd.R_mono (Kd.R_bound ho) (fun k hk => (⟨fun e => by have := hk.2.1; omega, fun e => by have := hk.2.1; omega, fun e => by have := hk.2.1; omega⟩ : k ≠ g1 ∧ k ≠ g2 ∧ k ≠ ga))) hs) (fun k hk _ => ?_)
  exact (Below.heap_setCell _ _ _ k hk.2.1).trans (Below.heap_setCell _ _ _ k hk.1)
 ·simpa using blk_set (blk_far h4 (p := ⟨g1, 0, none⟩) (Ne.symm hne) (.slice A n c)) 0 (.bool true)
 ·exact ((Below.heap_setCell _ _ _ i k2).trans (Below.heap_setCell _ _ _ i k1)).trans (hB.block i hi)
set_option maxHeartbeats 8000000 in
set_option maxRecDepth 100000 in
theorem impl_FirstEven_1.calls (g1 g2 ga n : Nat) (st : List Int) (s : List Int × Bool) (b : Bool) (r : List Int × Bool) (w0 w : World) (hJ : impl_FirstEven_1.J w0 g1 g2 ga w s) (hlt : ga < w.heap.size) (hn : st.length = n) (hr : Kd.C (Kd.int .i64) w (some ⟨ga, 0, none⟩) st.length st) (h : impl_FirstEven_1.f st s = some (b, r)) :
  Calls Try.prog 65 #[.slice (some ⟨ga, 0, none⟩) n n, .pointer (some ⟨g1, 0, none⟩), .pointer (some ⟨g2, 0, none⟩)] w fun e w' => e = .returned (.bool b) ∧ impl_FirstEven_1.J w0 g1 g2 ga w' r ∧ ∀ i, i < w.heap.size → i ≠ g1 → i ≠ g2 → w'.heap[i]? = w.heap[i]? := by
 subst hn; have HJ := Aside0.mk hJ; have HR := Aside0.mk hr; have HL := Aside0.mk hlt; have NE := hJ.2.2.2.1.1; have NE' : g2 ≠ g1 := Ne.symm NE; clear hJ hr hlt; obtain ⟨t, A1_, H⟩ := Option.bind_eq_some_iff.mp h; clear h; have Q1 := Aside0.mk A1_; clear A1_
 obtain ⟨rfl, rfl⟩ : false = b ∧ (t, true) = r := by simpa using H
 clear H; have HB := Aside0.mk (Below.refl w.heap.size w)
 go_enter Try.func65, Try.ntmps65
 go_wp2_with (first | (go_at_call 66; refine (slices_Clone.calls (some ⟨ga, 0, none⟩) st.length st t _ (Kd.C_below HR.out (by repeat (first | (with_reducible first | exact HB.out | apply below_alloc | apply pw_below_drewN | apply below_drew1) | exact HB.out))) (Nat.le_refl _) Q1.out).mono ?_; rintro e w6 ⟨v6, rfl, ho6, hb6⟩; obtain ⟨A6, n6, c6, rfl⟩ := impl_FirstEven_1.slice_of ho6; have HO6 := Aside0.mk (Kd.R_lower ho6 (below_size (by repeat (first | (with_reducible first | exact HB.out | apply below_alloc | apply pw_below_drewN | apply below_drew1) | exact HB.out)))); have n0_ := Aside0.mk (below_step (by repeat (first | (with_reducible first | exact HB.out | apply below_alloc | apply pw_below_drewN | apply below_drew1) | exact HB.out)) hb6); clear HB; have HB := n0_; clear n0_ ho6 hb6; obtain ⟨_, ⟨_, _, _, hg1_, _⟩, hg2_, _⟩ := impl_FirstEven_1.J_below HJ.out HB.out; have cz1 := blk_cell hg1_ 0; replace cz1 := cz1.trans rfl; have fz1 := blk_frozen hg1_ 0; have cz2 := blk_cell hg2_ 0; replace cz2 := cz2.trans rfl; have fz2 := blk_frozen hg2_ 0; clear hg1_ hg2_))
 repeat (go_quiet (fail); try go_wp2)
 go_ret; exact ⟨rfl, impl_FirstEven_1.J_found HJ.out HL.out (by repeat (first | (with_reducible first | exact HB.out | apply below_alloc | apply pw_below_drewN | apply below_drew1) | exact HB.out)) (by (with_reducible repeat (first | apply Kd.R_alloc | apply Kd.R_drewN | apply Kd.R_drew)); exact HO6.out)⟩
/-- The two variables that the closure holds. -/
def impl_FirstEven_1.J0 (w0 : World) (g1 g2 : Nat) (w : World) (s : List Int × Bool) : Prop :=
 Below w0.heap.size w0 w ∧ (∃ A n c, w.heap[g1]? = some (.cells #[.slice A n c] 22 (0, 0)) ∧ Kd.R (Kd.int .i64) 3 w w0.heap.size (fun k => k ≠ g1 ∧ k ≠ g2) (.slice A n c) s.1) ∧ w.heap[g2]? = some (.cells #[.bool s.2] 4 (0, 0)) ∧ g1 ≠ g2 ∧ w0.heap.size ≤ g1 ∧ w0.heap.size ≤ g2
theorem impl_FirstEven_1.J_of {w0 w w1 : World} {g1 g2 ga : Nat} {s : List Int × Bool} (h : impl_FirstEven_1.J0 w0 g1 g2 w s) (hb : Below w.heap.size w w1) (hg : w.heap.size ≤ ga) : impl_FirstEven_1.J w0 g1 g2 ga w1 s := by
 obtain ⟨h1, ⟨A, n, c, h2, h3⟩, h4, h5, h6, h7⟩ := h; have l1 := blk_lt h2; have l2 := blk_lt h4; have hs := h1.size; refine ⟨below_step h1 hb, ⟨A, n, c, blk_below h2 hb, ?_⟩, blk_below h4 hb, ⟨h5, by omega, by omega⟩, h6, h7, by omega⟩; exact Kd.R_below (Kd.R_mono (Kd.R_bound h3) (fun k hk => (⟨hk.1.1, hk.1.2, by have := hk.2.2.1; omega⟩ : k ≠ g1 ∧ k ≠ g2 ∧ k ≠ ga))) hb
theorem impl_FirstEven_1.J_to {w0 w : World} {g1 g2 ga : Nat} {s : List Int × Bool} (h : impl_FirstEven_1.J w0 g1 g2 ga w s) : impl_FirstEven_1.J0 w0 g1 g2 w s := by
 obtain ⟨h1, ⟨A, n, c, h2, h3⟩, h4, h5, h6, h7, _⟩ := h; exact ⟨h1, ⟨A, n, c, h2, Kd.R_mono h3 (fun k hk => ⟨hk.1, hk.2.1⟩)⟩, h4, h5.1, h6, h7⟩
theorem impl_FirstEven_1.start {w W : World} {g6 g7 : Nat} {A : Option Addr} {n c : Nat} (hB : Below w.heap.size w W) (b6 : W.heap[g6]? = some (.cells #[.slice none 0 0] 22 (0, 0))) (b7 : W.heap[g7]? = some (.cells #[.bool false] 4 (0, 0))) (hne : g6 ≠ g7) (h6 : w.heap.size ≤ g6) (h7 : w.heap.size ≤ g7) (ho : Kd.R (Kd.int .i64) 3 W w.heap.size (fun k => k ≠ g6 ∧ k ≠ g7) (.slice A n c) ([] : List Int)) :
  impl_FirstEven_1.J0 w g6 g7 ((W.setCell ⟨g6, 0, none⟩ (.slice A n c)).setCell ⟨g7, 0, none⟩ (.bool false)) (([] : List Int), false) := by
 refine ⟨below_set (below_set hB h6) h7, ⟨A, n, c, ?_, ?_⟩, ?_, hne, h6, h7⟩
 ·exact blk_far (p := ⟨g7, 0, none⟩) (by simpa using blk_set b6 0 (.slice A n c)) hne _
 ·exact Kd.R_step ho (fun k hk _ => (Below.heap_setCell _ _ _ k hk.2).trans (Below.heap_setCell _ _ _ k hk.1))
 ·simpa using blk_set (blk_far b7 (p := ⟨g6, 0, none⟩) (Ne.symm hne) (.slice A n c)) 0 (.bool false)
theorem impl_FirstEven_1.J0_below {w0 w w1 : World} {g1 g2 : Nat} {s : List Int × Bool} (h : impl_FirstEven_1.J0 w0 g1 g2 w s) (hb : Below w.heap.size w w1) : impl_FirstEven_1.J0 w0 g1 g2 w1 s := by
 obtain ⟨h1, ⟨A, n, c, h2, h3⟩, h4, h5⟩ := h; exact ⟨below_step h1 hb, ⟨A, n, c, blk_below h2 hb, Kd.R_below h3 hb⟩, blk_below h4 hb, h5⟩
theorem impl_FirstEven_1.J0_drewN {w0 w : World} {g1 g2 : Nat} {s : List Int × Bool} (h : impl_FirstEven_1.J0 w0 g1 g2 w s) (m : Nat) : impl_FirstEven_1.J0 w0 g1 g2 (w.drewN m) s := impl_FirstEven_1.J0_below h (pw_below_drewN (Below.refl _ _) m)
theorem impl_FirstEven_1.J0_drew {w0 w : World} {g1 g2 : Nat} {s : List Int × Bool} (h : impl_FirstEven_1.J0 w0 g1 g2 w s) : impl_FirstEven_1.J0 w0 g1 g2 w.drew s := impl_FirstEven_1.J0_below h (below_drew (Below.refl _ _))

end Go.Proofs.Ytkedfmmmjopofaa.XEv
