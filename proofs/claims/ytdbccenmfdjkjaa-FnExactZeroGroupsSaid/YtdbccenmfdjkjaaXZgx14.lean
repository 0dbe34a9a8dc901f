/- Functions of the program as plain Lean functions, each with the proof that the machine's call does what it says: written by a program of this session out of the translation. -/
import Derived.Test.YtdbccenmfdjkjaaXZgx0
import Derived.Test.YtdbccenmfdjkjaaXZgx1
import Derived.Test.YtdbccenmfdjkjaaXZgx2
import Derived.Test.YtdbccenmfdjkjaaXZgx3
import Derived.Test.YtdbccenmfdjkjaaXZgx4
import Derived.Test.YtdbccenmfdjkjaaXZgx5
import Derived.Test.YtdbccenmfdjkjaaXZgx9
import Derived.Test.YtdbccenmfdjkjaaXZgx10
import Derived.Test.YtdbccenmfdjkjaaXZgx13
namespace Go.Proofs.Ytdbccenmfdjkjaa.XZg
open Go.RowKit Go.Proofs.YtdbccenmfdjkjaaW.PrintWords Go.Proofs.YtdbccenmfdjkjaaW.PrintLast Go.Proofs.YtdbccenmfdjkjaaW.PrintMore
attribute [local go_sem] max2_int min2_int max_two min_two max_three min_three max_four min_four   -- for this text's walks alone
set_option linter.unusedVariables false
set_option linter.unusedSimpArgs false

/-! ### impl_ZeroGroups: function 10 -/
def impl_ZeroGroups.f (k : Nat) (l0 : List (S41)) (a1 : Int) : Option ((List (List Int)) × Bool) := (impl_IsRow.f k l0).bind fun t206 => (if t206 = true then ((impl_isPlace.f a1).bind fun t207 => (if t207 = true then (if (l0.length : Int) > 8 then (some (([] : List (List Int)), false)) else ((impl_zeroGroups.f k l0 a1).bind fun t208 => (some (t208, true)))) else (some (([] : List (List Int)), false)))) else (some (([] : List (List Int)), false)))
theorem impl_ZeroGroups.mono : ∀ a0 a1 k, LeO (impl_ZeroGroups.f k a0 a1) (impl_ZeroGroups.f (k + 1) a0 a1) := by
 intro a0 a1 k
 unfold impl_ZeroGroups.f
 repeat' first
   | (with_reducible exact impl_IsRow.mono _ _)
   | (with_reducible exact impl_zeroGroups.mono _ _ _)
   | (with_reducible exact LeO.refl _)
   | (with_reducible exact LeO.none _)
   | (with_reducible refine LeO.ite ?_ ?_)
   | (with_reducible refine LeO.bind ?_ (fun _ => ?_))
set_option maxHeartbeats 8000000 in
set_option maxRecDepth 100000 in
theorem impl_ZeroGroups.calls (k : Nat) (A0 : Option Addr) (c0 : Nat) (l0 : List (S41)) (a1 : Int) (r1 : List (List Int)) (r2 : Bool) (w : World) (hr0 : Kd.C k41 w A0 l0.length l0) (hc0 : l0.length ≤ c0) (h : impl_ZeroGroups.f k l0 a1 = some (r1, r2)) :
  Calls Try.prog 10 #[.slice A0 l0.length c0, .int .i64 a1] w fun e w' => ∃ v0_ : Value, e = .returned (.tuple #[v0_, .bool r2]) ∧ Kd.S (Kd.slice 3 (Kd.int .i64)) 34 w' w.heap.size (fun _ => True) v0_ r1 ∧ Below w.heap.size w w' := by
 have HR0 := Aside0.mk hr0; have HC0 := Aside0.mk hc0; clear hr0 hc0; have HB := Aside0.mk (Below.refl w.heap.size w); have H : ((impl_IsRow.f k l0).bind fun t206 => (if t206 = true then ((impl_isPlace.f a1).bind fun t207 => (if t207 = true then (if (l0.length : Int) > 8 then (some (([] : List (List Int)), false)) else ((impl_zeroGroups.f k l0 a1).bind fun t208 => (some (t208, true)))) else (some (([] : List (List Int)), false)))) else (some (([] : List (List Int)), false)))) = some (r1, r2) := h; clear h; replace H := Option.bind_eq_some_iff.mp H; obtain ⟨t206, A30, H⟩ := H; replace H : (if t206 = true then ((impl_isPlace.f a1).bind fun t207 => (if t207 = true then (if (l0.length : Int) > 8 then (some (([] : List (List Int)), false)) else ((impl_zeroGroups.f k l0 a1).bind fun t208 => (some (t208, true)))) else (some (([] : List (List Int)), false)))) else (some (([] : List (List Int)), false))) = some (r1, r2) := H; have A3 := Aside0.mk A30; clear A30
 by_cases c4 : t206 = true
 ·subst c4
  have H1 : ((impl_isPlace.f a1).bind fun t207 => (if t207 = true then (if (l0.length : Int) > 8 then (some (([] : List (List Int)), false)) else ((impl_zeroGroups.f k l0 a1).bind fun t208 => (some (t208, true)))) else (some (([] : List (List Int)), false)))) = some (r1, r2) := by rw [if_pos rfl] at H; exact H
  clear H; have H := H1; clear H1; replace H := Option.bind_eq_some_iff.mp H; obtain ⟨t207, A50, H⟩ := H; replace H : (if t207 = true then (if (l0.length : Int) > 8 then (some (([] : List (List Int)), false)) else ((impl_zeroGroups.f k l0 a1).bind fun t208 => (some (t208, true)))) else (some (([] : List (List Int)), false))) = some (r1, r2) := H; have A5 := Aside0.mk A50; clear A50
  by_cases c6 : t207 = true
  ·subst c6
   have H1 : (if (l0.length : Int) > 8 then (some (([] : List (List Int)), false)) else ((impl_zeroGroups.f k l0 a1).bind fun t208 => (some (t208, true)))) = some (r1, r2) := by rw [if_pos rfl] at H; exact H
   clear H; have H := H1; clear H1
   by_cases c7 : (l0.length : Int) > 8
   ·rw [if_pos c7] at H
    have c7b0 : decide (8 < (l0.length : Int)) = true := decide_eq_true c7; have c7b1 : decide (8 < l0.length) = true := decide_eq_true (by omega); clear c7; simp only [Option.some.injEq, Prod.mk.injEq] at H; obtain ⟨rfl, rfl⟩ := H
    go_enter Try.func10, Try.ntmps10
    go_wp2_with (first | ((with_reducible refine gate_callee (f := 41) rfl ?_); refine goesL_ (some 7) rfl rfl Try.func41 (by kernel_rfl) rfl #[.slice A0 l0.length c0] rfl (by (try simp only [List.map_toArray, List.map_cons, List.map_nil]); first | done | rfl | (simp only [List.length_drop, List.length_take]; rfl)) ?_; (with_reducible refine (impl_IsRow.calls k _ _ l0 true _ ?side1 ?side2 A3.out).mono ?_); (case side1 => repeat (first | exact HR0.out | (with_reducible refine Kd.C_alloc ?_ _) | (with_reducible refine Kd.C_drewN ?_ _) | (with_reducible refine Kd.C_drew ?_))); (case side2 => exact HC0.out); rintro e w8 ⟨rfl, hb⟩; refine ⟨_, rfl, ?_⟩; have n0_ := Aside0.mk (below_step (by repeat (first | (with_reducible first | exact HB.out | apply below_alloc | apply pw_below_drewN | apply below_drew1) | exact HB.out)) hb); clear HB; have HB := n0_; clear n0_; (try clear hb); (try clear hb2); (try clear hk); (try clear hi)) | (go_at_call 42; (with_reducible refine (impl_isPlace.calls a1 true _ A5.out).mono ?_); rintro e w' ⟨rfl, ⟨nd, rfl⟩⟩))
    go_ret2
    exact ⟨_, by first | rfl | (simp [errW_none, errW_some] <;> rfl) | (simp [*, errW_none, errW_some] <;> rfl), by first | exact Kd.S_nil _ _ _ _ _ | exact Kd.N_nil _ _ _ _ _ | exact Kd.V_nil _ _ _ _ _ | exact Kd.Q_nil _ _ _ _ _ | exact Kd.R_nil _ _ _ _ _, by repeat (first | (with_reducible first | exact HB.out | apply below_alloc | apply pw_below_drewN | apply below_drew1) | exact HB.out)⟩
   ·rw [if_neg c7] at H
    have c7b0 : decide (8 < (l0.length : Int)) = false := decide_eq_false c7; have c7b1 : decide (8 < l0.length) = false := decide_eq_false (by omega); clear c7; replace H := Option.bind_eq_some_iff.mp H; obtain ⟨t208, A90, H⟩ := H; replace H : (some (t208, true)) = some (r1, r2) := H; have A9 := Aside0.mk A90; clear A90; simp only [Option.some.injEq, Prod.mk.injEq] at H; obtain ⟨rfl, rfl⟩ := H
    go_enter Try.func10, Try.ntmps10
    go_wp2_with (first | ((with_reducible refine gate_callee (f := 41) rfl ?_); refine goesL_ (some 7) rfl rfl Try.func41 (by kernel_rfl) rfl #[.slice A0 l0.length c0] rfl (by (try simp only [List.map_toArray, List.map_cons, List.map_nil]); first | done | rfl | (simp only [List.length_drop, List.length_take]; rfl)) ?_; (with_reducible refine (impl_IsRow.calls k _ _ l0 true _ ?side1 ?side2 A3.out).mono ?_); (case side1 => repeat (first | exact HR0.out | (with_reducible refine Kd.C_alloc ?_ _) | (with_reducible refine Kd.C_drewN ?_ _) | (with_reducible refine Kd.C_drew ?_))); (case side2 => exact HC0.out); rintro e w10 ⟨rfl, hb⟩; refine ⟨_, rfl, ?_⟩; have n0_ := Aside0.mk (below_step (by repeat (first | (with_reducible first | exact HB.out | apply below_alloc | apply pw_below_drewN | apply below_drew1) | exact HB.out)) hb); clear HB; have HB := n0_; clear n0_; (try clear hb); (try clear hb2); (try clear hk); (try clear hi)) | (go_at_call 42; (with_reducible refine (impl_isPlace.calls a1 true _ A5.out).mono ?_); rintro e w' ⟨rfl, ⟨nd, rfl⟩⟩) | ((with_reducible refine gate_callee (f := 43) rfl ?_); refine goesL_ (some 21) rfl rfl Try.func43 (by kernel_rfl) rfl #[.slice A0 l0.length c0, .int .i64 a1] rfl (by (try simp only [List.map_toArray, List.map_cons, List.map_nil]); first | done | rfl | (simp only [List.length_drop, List.length_take]; rfl)) ?_; (with_reducible refine (impl_zeroGroups.calls k _ _ l0 a1 t208 _ ?side1 ?side2 A9.out).mono ?_); (case side1 => repeat (first | exact (Kd.C_below HR0.out (by repeat (first | (with_reducible first | exact HB.out | apply below_alloc | apply pw_below_drewN | apply below_drew1) | exact HB.out))) | (with_reducible refine Kd.C_alloc ?_ _) | (with_reducible refine Kd.C_drewN ?_ _) | (with_reducible refine Kd.C_drew ?_))); (case side2 => exact HC0.out); rintro e w11 ⟨v209, rfl, ho0, hb⟩; refine ⟨_, rfl, ?_⟩; have n0_ := Aside0.mk (Kd.S_lower ho0 (below_size (by repeat (first | (with_reducible first | exact HB.out | apply below_alloc | apply pw_below_drewN | apply below_drew1) | exact HB.out)))); have n1_ := Aside0.mk (below_step (by repeat (first | (with_reducible first | exact HB.out | apply below_alloc | apply pw_below_drewN | apply below_drew1) | exact HB.out)) hb); clear HB; have HO210 := n0_; have HB := n1_; clear n0_ n1_; (try clear hb); (try clear hb2); (try clear hk); (try clear hi); (try clear ho0)))
    go_ret2
    exact ⟨_, by first | rfl | (simp [errW_none, errW_some] <;> rfl) | (simp [*, errW_none, errW_some] <;> rfl), by (with_reducible repeat (first | apply Kd.S_alloc | apply Kd.S_drewN | apply Kd.S_drew)); exact HO210.out, by repeat (first | (with_reducible first | exact HB.out | apply below_alloc | apply pw_below_drewN | apply below_drew1) | exact HB.out)⟩
  ·replace c6 := Bool.eq_false_iff.mpr c6
   subst c6
   have H1 : (some (([] : List (List Int)), false)) = some (r1, r2) := by rw [if_neg (show ¬ (false = true) by decide)] at H; exact H
   clear H; have H := H1; clear H1; simp only [Option.some.injEq, Prod.mk.injEq] at H; obtain ⟨rfl, rfl⟩ := H
   go_enter Try.func10, Try.ntmps10
   go_wp2_with (first | ((with_reducible refine gate_callee (f := 41) rfl ?_); refine goesL_ (some 7) rfl rfl Try.func41 (by kernel_rfl) rfl #[.slice A0 l0.length c0] rfl (by (try simp only [List.map_toArray, List.map_cons, List.map_nil]); first | done | rfl | (simp only [List.length_drop, List.length_take]; rfl)) ?_; (with_reducible refine (impl_IsRow.calls k _ _ l0 true _ ?side1 ?side2 A3.out).mono ?_); (case side1 => repeat (first | exact HR0.out | (with_reducible refine Kd.C_alloc ?_ _) | (with_reducible refine Kd.C_drewN ?_ _) | (with_reducible refine Kd.C_drew ?_))); (case side2 => exact HC0.out); rintro e w12 ⟨rfl, hb⟩; refine ⟨_, rfl, ?_⟩; have n0_ := Aside0.mk (below_step (by repeat (first | (with_reducible first | exact HB.out | apply below_alloc | apply pw_below_drewN | apply below_drew1) | exact HB.out)) hb); clear HB; have HB := n0_; clear n0_; (try clear hb); (try clear hb2); (try clear hk); (try clear hi)) | (go_at_call 42; (with_reducible refine (impl_isPlace.calls a1 false _ A5.out).mono ?_); rintro e w' ⟨rfl, ⟨nd, rfl⟩⟩))
   go_ret2
   exact ⟨_, by first | rfl | (simp [errW_none, errW_some] <;> rfl) | (simp [*, errW_none, errW_some] <;> rfl), by first | exact Kd.S_nil _ _ _ _ _ | exact Kd.N_nil _ _ _ _ _ | exact Kd.V_nil _ _ _ _ _ | exact Kd.Q_nil _ _ _ _ _ | exact Kd.R_nil _ _ _ _ _, by repeat (first | (with_reducible first | exact HB.out | apply below_alloc | apply pw_below_drewN | apply below_drew1) | exact HB.out)⟩
 ·replace c4 := Bool.eq_false_iff.mpr c4
  subst c4
  have H1 : (some (([] : List (List Int)), false)) = some (r1, r2) := by rw [if_neg (show ¬ (false = true) by decide)] at H; exact H
  clear H; have H := H1; clear H1; simp only [Option.some.injEq, Prod.mk.injEq] at H; obtain ⟨rfl, rfl⟩ := H
  go_enter Try.func10, Try.ntmps10
  go_wp2_with (first | ((with_reducible refine gate_callee (f := 41) rfl ?_); refine goesL_ (some 7) rfl rfl Try.func41 (by kernel_rfl) rfl #[.slice A0 l0.length c0] rfl (by (try simp only [List.map_toArray, List.map_cons, List.map_nil]); first | done | rfl | (simp only [List.length_drop, List.length_take]; rfl)) ?_; (with_reducible refine (impl_IsRow.calls k _ _ l0 false _ ?side1 ?side2 A3.out).mono ?_); (case side1 => repeat (first | exact HR0.out | (with_reducible refine Kd.C_alloc ?_ _) | (with_reducible refine Kd.C_drewN ?_ _) | (with_reducible refine Kd.C_drew ?_))); (case side2 => exact HC0.out); rintro e w13 ⟨rfl, hb⟩; refine ⟨_, rfl, ?_⟩; have n0_ := Aside0.mk (below_step (by repeat (first | (with_reducible first | exact HB.out | apply below_alloc | apply pw_below_drewN | apply below_drew1) | exact HB.out)) hb); clear HB; have HB := n0_; clear n0_; (try clear hb); (try clear hb2); (try clear hk); (try clear hi)))
  go_ret2
  exact ⟨_, by first | rfl | (simp [errW_none, errW_some] <;> rfl) | (simp [*, errW_none, errW_some] <;> rfl), by first | exact Kd.S_nil _ _ _ _ _ | exact Kd.N_nil _ _ _ _ _ | exact Kd.V_nil _ _ _ _ _ | exact Kd.Q_nil _ _ _ _ _ | exact Kd.R_nil _ _ _ _ _, by repeat (first | (with_reducible first | exact HB.out | apply below_alloc | apply pw_below_drewN | apply below_drew1) | exact HB.out)⟩

/-! ### laws_FnExactZeroGroups: function 6, by hand -/
-- needs 30 31 33 32 34 35 36
def laws_FnExactZeroGroups.f (k : Nat) (l0 : List (S69)) (a1 : Int) : Option Bool := (laws_szLoadS.f l0 1048576).bind fun t1 => (if t1 < 0 then (some true) else ((laws_toLoadS.f k l0).bind fun t2 => ((spec_ZeroGroups.f k t2 a1).bind fun b3 => ((laws_toLoadS.f k l0).bind fun t4 => ((impl_ZeroGroups.f k t4 a1).bind fun b5 => ((laws_eqIntSS.f k b5.1 b3.1).bind fun t6 => (if t6 = true then (if (b5.2 != b3.2) = true then none else ((laws_toLoadS.f k l0).bind fun t7 => ((laws_eqLoadS.f k t4 t7).bind fun t8 => (if t8 = true then ((laws_markLoadS.f k t4 1).bind fun b9 => (if b9.1 < 0 then none else ((laws_markIntSS.f k b5.1 1).bind fun b11 => ((laws_heldIntSS.f k b11.2 1).bind fun t12 => (if t12 < 0 then none else (if t12 = b11.1 then some true else none)))))) else none)))) else none)))))))
theorem laws_FnExactZeroGroups.mono : ∀ a0 a1 k, LeO (laws_FnExactZeroGroups.f k a0 a1) (laws_FnExactZeroGroups.f (k + 1) a0 a1) := by
 intro a0 a1 k
 unfold laws_FnExactZeroGroups.f
 repeat' first
  | (with_reducible exact laws_toLoadS.mono _ _)
  | (with_reducible exact spec_ZeroGroups.mono _ _ _)
  | (with_reducible exact impl_ZeroGroups.mono _ _ _)
  | (with_reducible exact laws_eqIntSS.mono _ _ _)
  | (with_reducible exact laws_eqLoadS.mono _ _ _)
  | (with_reducible exact laws_markLoadS.mono _ _ _)
  | (with_reducible exact laws_markIntSS.mono _ _ _)
  | (with_reducible exact laws_heldIntSS.mono _ _ _)
  | (with_reducible exact LeO.refl _)
  | (with_reducible exact LeO.none _)
  | (with_reducible refine LeO.ite ?_ ?_)
  | (with_reducible refine LeO.bind ?_ (fun _ => ?_))
theorem laws_FnExactZeroGroups.inv {k : Nat} {l0 : List (S69)} {a1 : Int} {r : Bool} (h : laws_FnExactZeroGroups.f k l0 a1 = some r) :
  r = true ∧ ∃ t1, laws_szLoadS.f l0 1048576 = some t1 ∧ (t1 < 0 ∨ ¬ t1 < 0 ∧ ∃ t2 t3 s3 t5 n9 y9 n11 y11, laws_toLoadS.f k l0 = some t2 ∧ spec_ZeroGroups.f k t2 a1 = some (t3, s3) ∧ impl_ZeroGroups.f k t2 a1 = some (t5, s3) ∧ laws_eqIntSS.f k t5 t3 = some true ∧ laws_eqLoadS.f k t2 t2 = some true ∧ laws_markLoadS.f k t2 1 = some (n9, y9) ∧ ¬ n9 < 0 ∧ laws_markIntSS.f k t5 1 = some (n11, y11) ∧ laws_heldIntSS.f k y11 1 = some n11 ∧ ¬ n11 < 0) := by
 unfold laws_FnExactZeroGroups.f at h
 replace h := Option.bind_eq_some_iff.mp h; obtain ⟨t1, A1, h⟩ := h
 try dsimp only at h
 by_cases c1 : t1 < 0
 ·rw [if_pos c1] at h
  exact ⟨(Option.some.inj h).symm, t1, A1, .inl c1⟩
 rw [if_neg c1] at h; replace h := Option.bind_eq_some_iff.mp h; obtain ⟨t2, A2, h⟩ := h
 try dsimp only at h
 replace h := Option.bind_eq_some_iff.mp h; obtain ⟨⟨t3, s3⟩, A3, h⟩ := h
 try dsimp only at h
 replace h := Option.bind_eq_some_iff.mp h; obtain ⟨t4, A4, h⟩ := h
 try dsimp only at h
 obtain rfl : t2 = t4 := Option.some.inj (A2.symm.trans A4); replace h := Option.bind_eq_some_iff.mp h; obtain ⟨⟨t5, s5⟩, A5, h⟩ := h
 try dsimp only at h
 replace h := Option.bind_eq_some_iff.mp h; obtain ⟨t6, A6, h⟩ := h
 try dsimp only at h
 cases t6 with
 | false => simp at h
 | true =>
  rw [if_pos rfl] at h
  by_cases c5 : (s5 != s3) = true
  ·rw [if_pos c5] at h; simp at h
  rw [if_neg c5] at h
  obtain rfl : s5 = s3 := by simpa using c5
  replace h := Option.bind_eq_some_iff.mp h; obtain ⟨t7, A7, h⟩ := h
  try dsimp only at h
  obtain rfl : t2 = t7 := Option.some.inj (A2.symm.trans A7); replace h := Option.bind_eq_some_iff.mp h; obtain ⟨t8, A8, h⟩ := h
  try dsimp only at h
  cases t8 with
  | false => simp at h
  | true =>
   rw [if_pos rfl] at h; replace h := Option.bind_eq_some_iff.mp h; obtain ⟨⟨n9, y9⟩, A9, h⟩ := h
   try dsimp only at h
   by_cases c9 : n9 < 0
   ·rw [if_pos c9] at h; simp at h
   rw [if_neg c9] at h; replace h := Option.bind_eq_some_iff.mp h; obtain ⟨⟨n11, y11⟩, A11, h⟩ := h
   try dsimp only at h
   replace h := Option.bind_eq_some_iff.mp h; obtain ⟨t12, A12, h⟩ := h
   try dsimp only at h
   by_cases c12 : t12 < 0
   ·rw [if_pos c12] at h; simp at h
   rw [if_neg c12] at h
   by_cases c13 : t12 = n11
   ·rw [if_pos c13] at h
    subst c13; exact ⟨(Option.some.inj h).symm, t1, A1, .inr ⟨c1, t2, t3, _, t5, n9, y9, _, y11, A2, A3, A5, A6, A8, A9, c9, A11, A12, c12⟩⟩
   ·rw [if_neg c13] at h; simp at h
theorem S_ge {W : World} {base : Nat} {u : Value} {xs : List (List Int)} (h : Kd.S kT 34 W base (fun _ => True) u xs) : Kd.S kT 34 W base (fun k => base ≤ k) u xs := by
 obtain ⟨f, h⟩ := h; exact ⟨f, Kd.R_mono (Kd.R_bound h) (fun k hk => hk.2.1)⟩
theorem S_keep {W W2 : World} {base : Nat} {Q P : Nat → Prop} {u : Value} {xs : List (List Int)} (h : Kd.S kT 34 W base P u xs) (hk : Kept W W2 Q) (hne : ∀ k, P k → ¬ Q k) : Kd.S kT 34 W2 base P u xs := by
 obtain ⟨f, h⟩ := h; exact ⟨f, Kd.R_mono (Kd.R_keptB h hk hne) (fun k hk => hk.1)⟩

theorem slice_len {A : Option Addr} {n c m : Nat} (h : ∃ B d, Value.slice A n c = .slice B m d) : n = m := by
 obtain ⟨B, d, e⟩ := h
 injection e
set_option maxHeartbeats 8000000 in
set_option maxRecDepth 100000 in
theorem laws_FnExactZeroGroups.calls (k : Nat) (A0 : Option Addr) (c0 : Nat) (l0 : List (S69)) (a1 : Int) (r : Bool) (w : World) (hr0 : Kd.C k69 w A0 l0.length l0) (hc0 : l0.length ≤ c0) (h : laws_FnExactZeroGroups.f k l0 a1 = some r) :
  Calls Try.prog 6 #[.slice A0 l0.length c0, .int .i64 a1] w fun e w' => e = .returned (.bool r) ∧ Below w.heap.size w w' := by
 have HR0 := Aside0.mk hr0; have HC0 := Aside0.mk hc0; clear hr0 hc0; obtain ⟨rfl, t1, A1_, hh⟩ := laws_FnExactZeroGroups.inv h; clear h; have A1 := Aside0.mk A1_; clear A1_
 rcases hh with c1 | ⟨c1, t2, t3, s3, t5, n9, y9, n11, y11, A2_, A3_, A5_, A6_, A8_, A9_, c9, A11_, A12_, c12⟩
 ·have c1b0 : decide (t1 < 0) = true := decide_eq_true c1
  clear c1
  go_enter Try.func6, Try.ntmps6
  go_wp2_with (first | ((with_reducible refine gate_callee (f := 30) rfl ?_); refine goesL_ _ rfl rfl Try.func30 (by kernel_rfl) rfl #[.slice A0 l0.length c0, .int .i64 1048576] rfl (by (try simp only [List.map_toArray, List.map_cons, List.map_nil]); first | done | rfl | (simp only [List.length_drop, List.length_take]; rfl)) ?_; (refine (laws_szLoadS.calls _ _ l0 1048576 t1 _ HR0.out HC0.out A1.out).mono ?_); rintro e w1 ⟨rfl, hd⟩; refine ⟨_, rfl, ?_⟩; have HB1 := Aside0.mk (hd.below); clear hd))
  go_ret; exact ⟨by first | rfl | (simp; done) | (simp [*]; done), HB1.out⟩
 ·have c1b0 : decide (t1 < 0) = false := decide_eq_false c1
  have c9b0 : decide (n9 < 0) = false := decide_eq_false c9; have c12b0 : decide (n11 < 0) = false := decide_eq_false c12; clear c1 c9 c12; have A2 := Aside0.mk A2_; have A3 := Aside0.mk A3_; have A5 := Aside0.mk A5_; have A6 := Aside0.mk A6_; have A8 := Aside0.mk A8_; have A9 := Aside0.mk A9_; have A11 := Aside0.mk A11_; have A12 := Aside0.mk A12_; clear A2_ A3_ A5_ A6_ A8_ A9_ A11_ A12_
  go_enter Try.func6, Try.ntmps6
  go_wp2_with (first | ((with_reducible refine gate_callee (f := 30) rfl ?_); refine goesL_ _ rfl rfl Try.func30 (by kernel_rfl) rfl #[.slice A0 l0.length c0, .int .i64 1048576] rfl (by (try simp only [List.map_toArray, List.map_cons, List.map_nil]); first | done | rfl | (simp only [List.length_drop, List.length_take]; rfl)) ?_; (refine (laws_szLoadS.calls _ _ l0 1048576 t1 _ HR0.out HC0.out A1.out).mono ?_); rintro e w1 ⟨rfl, hd⟩; refine ⟨_, rfl, ?_⟩; have HB1 := Aside0.mk (hd.below); clear hd) | ((with_reducible refine gate_callee (f := 31) rfl ?_); refine goesL_ _ rfl rfl Try.func31 (by kernel_rfl) rfl #[.slice A0 l0.length c0] rfl (by (try simp only [List.map_toArray, List.map_cons, List.map_nil]); first | done | rfl | (simp only [List.length_drop, List.length_take]; rfl)) ?_; (refine (laws_toLoadS.calls k _ _ l0 t2 _ (Kd.C_below HR0.out HB1.out) HC0.out A2.out).mono ?_); rintro e w2 ⟨v2, rfl, ho, hb⟩; refine ⟨_, rfl, ?_⟩; have HB2 := Aside0.mk (below_step HB1.out (hb)); obtain ⟨B2, d2, rfl⟩ := Kd.R_slice ho; have Y2 := Aside0.mk ho; clear ho hb) | ((with_reducible refine gate_callee (f := 11) rfl ?_); refine goesL_ _ rfl rfl Try.func11 (by kernel_rfl) rfl #[.slice B2 t2.length d2, .int .i64 a1] rfl (by (try simp only [List.map_toArray, List.map_cons, List.map_nil]); first | done | rfl | (simp only [List.length_drop, List.length_take]; rfl)) ?_; (refine (spec_ZeroGroups.calls k _ _ t2 a1 t3 s3 _ (Kd.R_reads' Y2.out).2.2 (Kd.R_reads' Y2.out).2.1 A3.out).mono ?_); rintro e w3 ⟨v3, rfl, ho, hb⟩; refine ⟨_, rfl, ?_⟩; have HB3 := Aside0.mk (below_step HB2.out (hb)); obtain ⟨B3, d3, rfl⟩ := Kd.N_slice ho; have V3 := Aside0.mk (Kd.F_mono (Kd.F_bound (Kd.N_F ho)) (fun k_ hk_ => hk_.2)); have L3 := Aside0.mk (Kd.N_reads' ho).2.1; have Z3 := Aside0.mk (Nat.le_refl w3.heap.size); clear ho hb) | ((with_reducible refine gate_callee (f := 31) rfl ?_); refine goesL_ _ rfl rfl Try.func31 (by kernel_rfl) rfl #[.slice A0 l0.length c0] rfl (by (try simp only [List.map_toArray, List.map_cons, List.map_nil]); first | done | rfl | (simp only [List.length_drop, List.length_take]; rfl)) ?_; (refine (laws_toLoadS.calls k _ _ l0 t2 _ (Kd.C_below HR0.out HB3.out) HC0.out A2.out).mono ?_); rintro e w4 ⟨v4, rfl, ho, hb⟩; refine ⟨_, rfl, ?_⟩; have HB4 := Aside0.mk (below_step HB3.out (hb)); obtain ⟨B4, d4, rfl⟩ := Kd.R_slice ho; have X4 := Aside0.mk (Kd.R_lower (Kd.R_mono (Kd.R_bound ho) (ok' := fun k_ => w3.heap.size ≤ k_ ∧ k_ < w4.heap.size) (fun k_ hk_ => ⟨hk_.2.1, hk_.2.2.1⟩)) (below_size HB3.out)); have V4 := Aside0.mk (Kd.F_below V3.out hb); have Z4 := Aside0.mk (below_size hb); clear ho hb) | ((with_reducible refine gate_callee (f := 10) rfl ?_); refine goesL_ _ rfl rfl Try.func10 (by kernel_rfl) rfl #[.slice B4 t2.length d4, .int .i64 a1] rfl (by (try simp only [List.map_toArray, List.map_cons, List.map_nil]); first | done | rfl | (simp only [List.length_drop, List.length_take]; rfl)) ?_; (refine (impl_ZeroGroups.calls k _ _ t2 a1 t5 s3 _ (Kd.R_reads' X4.out).2.2 (Kd.R_reads' X4.out).2.1 A5.out).mono ?_); rintro e w5 ⟨v5, rfl, ho, hb⟩; refine ⟨_, rfl, ?_⟩; have HB5 := Aside0.mk (below_step HB4.out (hb)); obtain ⟨B5, d5, rfl⟩ := Kd.S_slice ho; have G5 := Aside0.mk (Kd.S_lower (S_ge ho) (below_size HB4.out)); have X5 := Aside0.mk (Kd.R_below X4.out (hb)); have V5 := Aside0.mk (Kd.F_below V4.out (hb)); clear ho hb) | ((with_reducible refine gate_callee (f := 33) rfl ?_); refine goesL_ _ rfl rfl Try.func33 (by kernel_rfl) rfl #[.slice B5 t5.length d5, .slice B3 t3.length d3] rfl (by (try simp only [List.map_toArray, List.map_cons, List.map_nil]); first | done | rfl | (simp only [List.length_drop, List.length_take]; rfl)) ?_; (refine (laws_eqIntSS.calls k _ _ t5 _ _ t3 true _ (Kd.S_reads' G5.out).2.2 (Kd.S_reads' G5.out).2.1 (Kd.F_now V5.out) L3.out A6.out).mono ?_); rintro e w6 ⟨rfl, hd⟩; refine ⟨_, rfl, ?_⟩; have HB6 := Aside0.mk (below_step HB5.out (hd.below)); have X6 := Aside0.mk (Kd.R_below X5.out (hd.below)); have G6 := Aside0.mk (Kd.S_below G5.out (hd.below)); have V6 := Aside0.mk (Kd.F_below V5.out (hd.below)); clear hd) | ((with_reducible refine gate_callee (f := 31) rfl ?_); refine goesL_ _ rfl rfl Try.func31 (by kernel_rfl) rfl #[.slice A0 l0.length c0] rfl (by (try simp only [List.map_toArray, List.map_cons, List.map_nil]); first | done | rfl | (simp only [List.length_drop, List.length_take]; rfl)) ?_; (refine (laws_toLoadS.calls k _ _ l0 t2 _ (Kd.C_below HR0.out HB6.out) HC0.out A2.out).mono ?_); rintro e w7 ⟨v7, rfl, ho, hb⟩; refine ⟨_, rfl, ?_⟩; have HB7 := Aside0.mk (below_step HB6.out (hb)); obtain ⟨B7, d7, rfl⟩ := Kd.R_slice ho; have Y7 := Aside0.mk ho; have X7 := Aside0.mk (Kd.R_below X6.out (hb)); have G7 := Aside0.mk (Kd.S_below G6.out (hb)); have V7 := Aside0.mk (Kd.F_below V6.out (hb)); clear ho hb) | ((with_reducible refine gate_callee (f := 32) rfl ?_); refine goesL_ _ rfl rfl Try.func32 (by kernel_rfl) rfl #[.slice B4 t2.length d4, .slice B7 t2.length d7] rfl (by (try simp only [List.map_toArray, List.map_cons, List.map_nil]); first | done | rfl | (simp only [List.length_drop, List.length_take]; rfl)) ?_; (refine (laws_eqLoadS.calls k _ _ t2 _ _ t2 true _ (Kd.R_reads' X7.out).2.2 (Kd.R_reads' X7.out).2.1 (Kd.R_reads' Y7.out).2.2 (Kd.R_reads' Y7.out).2.1 A8.out).mono ?_); rintro e w8 ⟨rfl, hb⟩; refine ⟨_, rfl, ?_⟩; have HB8 := Aside0.mk (below_step HB7.out (hb)); have X8 := Aside0.mk (Kd.R_below X7.out (hb)); have G8 := Aside0.mk (Kd.S_below G7.out (hb)); have V8 := Aside0.mk (Kd.F_below V7.out (hb)); clear hb) | ((with_reducible refine gate_callee (f := 34) rfl ?_); refine goesL_ _ rfl rfl Try.func34 (by kernel_rfl) rfl #[.slice B4 t2.length d4, .int .i64 1] rfl (by (try simp only [List.map_toArray, List.map_cons, List.map_nil]); first | done | rfl | (simp only [List.length_drop, List.length_take]; rfl)) ?_; (refine (laws_markLoadS.calls k _ _ t2 1 n9 y9 w _ HB8.out X8.out A9.out).mono ?_); rintro e w9 ⟨rfl, ho, hb, hk⟩; refine ⟨_, rfl, ?_⟩; have HB9 := Aside0.mk hb; have G9 := Aside0.mk (S_keep G8.out hk (fun k_ h1_ h2_ => Nat.not_lt.2 h1_ h2_.2)); have V9 := Aside0.mk (Kd.F_kept V8.out hk (fun k_ h1_ h2_ => Nat.not_le.2 h1_ h2_.1)); clear ho hb hk) | ((with_reducible refine gate_callee (f := 33) rfl ?_); refine goesL_ _ rfl rfl Try.func33 (by kernel_rfl) rfl #[.slice B5 t5.length d5, .slice B3 t3.length d3] rfl (by (try simp only [List.map_toArray, List.map_cons, List.map_nil]); first | done | rfl | (simp only [List.length_drop, List.length_take]; rfl)) ?_; (refine (laws_eqIntSS.calls k _ _ t5 _ _ t3 true _ (Kd.S_reads' G9.out).2.2 (Kd.S_reads' G9.out).2.1 (Kd.F_now V9.out) L3.out A6.out).mono ?_); rintro e w10 ⟨rfl, hd⟩; refine ⟨_, rfl, ?_⟩; have HB10 := Aside0.mk (below_step HB9.out (hd.below)); have G10 := Aside0.mk (Kd.S_below G9.out (hd.below)); have V10 := Aside0.mk (Kd.F_below V9.out (hd.below)); clear hd) | (go_at_call 33; (refine (laws_eqIntSS.calls k _ _ t5 _ _ t3 true _ (Kd.S_reads' G9.out).2.2 (Kd.S_reads' G9.out).2.1 (Kd.F_now V9.out) L3.out A6.out).mono ?_); rintro e w10 ⟨rfl, hd⟩; have HB10 := Aside0.mk (below_step HB9.out (hd.below)); have G10 := Aside0.mk (Kd.S_below G9.out (hd.below)); have V10 := Aside0.mk (Kd.F_below V9.out (hd.below)); clear hd) | ((with_reducible refine gate_callee (f := 35) rfl ?_); refine goesL_ _ rfl rfl Try.func35 (by kernel_rfl) rfl #[.slice B5 t5.length d5, .int .i64 1] rfl (by (try simp only [List.map_toArray, List.map_cons, List.map_nil]); first | done | rfl | (simp only [List.length_drop, List.length_take]; rfl)) ?_; (refine (laws_markIntSS.calls k _ _ t5 1 n11 y11 w _ HB10.out G10.out A11.out).mono ?_); rintro e w11 ⟨rfl, ho, hb, hk⟩; refine ⟨_, rfl, ?_⟩; have HB11 := Aside0.mk hb; have E11 := Aside0.mk (slice_len (Kd.S_slice ho)); have G11 := Aside0.mk ho; have V11 := Aside0.mk (Kd.F_kept V10.out hk (fun k_ h1_ h2_ => Nat.not_le.2 h1_ (Nat.le_trans Z4.out h2_))); clear ho hb hk; rw [E11.out]) | ((with_reducible refine gate_callee (f := 36) rfl ?_); refine goesL_ _ rfl rfl Try.func36 (by kernel_rfl) rfl #[.slice B5 y11.length d5, .int .i64 1] rfl (by (try simp only [List.map_toArray, List.map_cons, List.map_nil]); first | done | rfl | (simp only [List.length_drop, List.length_take]; rfl)) ?_; (refine (laws_heldIntSS.calls k _ _ y11 1 n11 _ (Kd.S_reads' G11.out).2.2 (by have := (Kd.S_reads' G11.out).2.1; have := E11.out; omega) A12.out).mono ?_); rintro e w12 ⟨rfl, hd⟩; refine ⟨_, rfl, ?_⟩; have HB12 := Aside0.mk (below_step HB11.out (hd.below)); have G12 := Aside0.mk (Kd.S_below G11.out (hd.below)); have V12 := Aside0.mk (Kd.F_below V11.out (hd.below)); clear hd) | ((with_reducible refine gate_callee (f := 31) rfl ?_); refine goesL_ _ rfl rfl Try.func31 (by kernel_rfl) rfl #[.slice A0 l0.length c0] rfl (by (try simp only [List.map_toArray, List.map_cons, List.map_nil]); first | done | rfl | (simp only [List.length_drop, List.length_take]; rfl)) ?_; (refine (laws_toLoadS.calls k _ _ l0 t2 _ (Kd.C_below HR0.out HB12.out) HC0.out A2.out).mono ?_); rintro e w13 ⟨v13, rfl, ho, hb⟩; refine ⟨_, rfl, ?_⟩; have HB13 := Aside0.mk (below_step HB12.out (hb)); obtain ⟨B13, d13, rfl⟩ := Kd.R_slice ho; have Y13 := Aside0.mk ho; have G13 := Aside0.mk (Kd.S_below G12.out (hb)); have V13 := Aside0.mk (Kd.F_below V12.out (hb)); clear ho hb) | ((with_reducible refine gate_callee (f := 10) rfl ?_); refine goesL_ _ rfl rfl Try.func10 (by kernel_rfl) rfl #[.slice B13 t2.length d13, .int .i64 a1] rfl (by (try simp only [List.map_toArray, List.map_cons, List.map_nil]); first | done | rfl | (simp only [List.length_drop, List.length_take]; rfl)) ?_; (refine (impl_ZeroGroups.calls k _ _ t2 a1 t5 s3 _ (Kd.R_reads' Y13.out).2.2 (Kd.R_reads' Y13.out).2.1 A5.out).mono ?_); rintro e w14 ⟨v14, rfl, ho, hb⟩; refine ⟨_, rfl, ?_⟩; have HB14 := Aside0.mk (below_step HB13.out (hb)); obtain ⟨B14, d14, rfl⟩ := Kd.S_slice ho; have H14 := Aside0.mk ho; have G14 := Aside0.mk (Kd.S_below G13.out (hb)); have V14 := Aside0.mk (Kd.F_below V13.out (hb)); clear ho hb) | ((with_reducible refine gate_callee (f := 33) rfl ?_); refine goesL_ _ rfl rfl Try.func33 (by kernel_rfl) rfl #[.slice B14 t5.length d14, .slice B3 t3.length d3] rfl (by (try simp only [List.map_toArray, List.map_cons, List.map_nil]); first | done | rfl | (simp only [List.length_drop, List.length_take]; rfl)) ?_; (refine (laws_eqIntSS.calls k _ _ t5 _ _ t3 true _ (Kd.S_reads' H14.out).2.2 (Kd.S_reads' H14.out).2.1 (Kd.F_now V14.out) L3.out A6.out).mono ?_); rintro e w15 ⟨rfl, hd⟩; refine ⟨_, rfl, ?_⟩; have HB15 := Aside0.mk (below_step HB14.out (hd.below)); have G15 := Aside0.mk (Kd.S_below G14.out (hd.below)); have V15 := Aside0.mk (Kd.F_below V14.out (hd.below)); clear hd) | ((with_reducible refine gate_callee (f := 36) rfl ?_); refine goesL_ _ rfl rfl Try.func36 (by kernel_rfl) rfl #[.slice B5 y11.length d5, .int .i64 1] rfl (by (try simp only [List.map_toArray, List.map_cons, List.map_nil]); first | done | rfl | (simp only [List.length_drop, List.length_take]; rfl)) ?_; (refine (laws_heldIntSS.calls k _ _ y11 1 n11 _ (Kd.S_reads' G15.out).2.2 (by have := (Kd.S_reads' G15.out).2.1; have := E11.out; omega) A12.out).mono ?_); rintro e w16 ⟨rfl, hd⟩; refine ⟨_, rfl, ?_⟩; have HB16 := Aside0.mk (below_step HB15.out (hd.below)); have G16 := Aside0.mk (Kd.S_below G15.out (hd.below)); have V16 := Aside0.mk (Kd.F_below V15.out (hd.below)); clear hd))
  go_ret; exact ⟨by first | rfl | (simp; done) | (simp [*]; done), HB16.out⟩

end Go.Proofs.Ytdbccenmfdjkjaa.XZg
