/- Functions of the program as plain Lean functions, each with the proof that the machine's call does what it says: written by a program of this session out of the translation. -/
import Derived.Test.YtckhmeadflafaaaXCbx0
import Derived.Test.YtckhmeadflafaaaXCbx15
import Derived.Test.YtckhmeadflafaaaXCbx25
namespace Go.Proofs.Ytckhmeadflafaaa.XCb
open Go.RowKit Go.Proofs.YtckhmeadflafaaaW.PrintWords Go.Proofs.YtckhmeadflafaaaW.PrintLast Go.Proofs.YtckhmeadflafaaaW.PrintMore
attribute [local go_sem] max2_int min2_int max_two min_two max_three min_three max_four min_four   -- for this text's walks alone
set_option linter.unusedVariables false
set_option linter.unusedSimpArgs false

/-! ### laws_FnExactCountBodies: function 6 -/
def laws_FnExactCountBodies.f (k : Nat) (a0 : Int) : Option (Bool) := (spec_CountBodies.f k a0).bind fun bt354 => ((impl_CountBodies.f k a0).bind fun bt357 => (if bt357.1 = bt354.1 then (if bt357.2.1 = bt354.2.1 then (if (bt357.2.2 != bt354.2.2) = true then (none) else (some true)) else (none)) else (none)))
theorem laws_FnExactCountBodies.mono : ∀ a0 k, LeO (laws_FnExactCountBodies.f k a0) (laws_FnExactCountBodies.f (k + 1) a0) := by
 intro a0 k
 unfold laws_FnExactCountBodies.f
 repeat' first
   | (with_reducible exact impl_CountBodies.mono _ _)
   | (with_reducible exact spec_CountBodies.mono _ _)
   | (with_reducible exact LeO.refl _)
   | (with_reducible exact LeO.none _)
   | (with_reducible refine LeO.ite ?_ ?_)
   | (with_reducible refine LeO.bind ?_ (fun _ => ?_))
set_option maxHeartbeats 8000000 in
set_option maxRecDepth 100000 in
theorem laws_FnExactCountBodies.calls (k : Nat) (a0 : Int) (r : Bool) (w : World) (h : laws_FnExactCountBodies.f k a0 = some r) :
  Calls Try.prog 6 #[.int .i64 a0] w fun e w' => e = .returned (.bool r) ∧ Below w.heap.size w w' := by
 have HB := ak (Below.refl w.heap.size w); have H : ((spec_CountBodies.f k a0).bind fun bt354 => ((impl_CountBodies.f k a0).bind fun bt357 => (if bt357.1 = bt354.1 then (if bt357.2.1 = bt354.2.1 then (if (bt357.2.2 != bt354.2.2) = true then (none) else (some true)) else (none)) else (none)))) = some r := h; clear h; obtain ⟨⟨t354, t355, t356⟩, A20, H⟩ := Option.bind_eq_some_iff.mp H
 (try dsimp only at H)
 have A2 := ak A20; clear A20; obtain ⟨⟨t357, t358, t359⟩, A30, H⟩ := Option.bind_eq_some_iff.mp H
 (try dsimp only at H)
 have A3 := ak A30; clear A30
 by_cases c4 : t357 = t354
 ·rw [if_pos c4] at H
  have c4b0 : (t357 == t354) = true := beq_iff_eq.mpr c4; have c4b1 : (t357 != t354) = false := bne_eq_false_iff_eq.mpr c4; clear c4
  by_cases c5 : t358 = t355
  ·rw [if_pos c5] at H
   have c5b0 : (t358 == t355) = true := beq_iff_eq.mpr c5; have c5b1 : (t358 != t355) = false := bne_eq_false_iff_eq.mpr c5; clear c5
   by_cases c6 : (t359 != t356) = true
   ·rw [if_pos c6] at H
    exact absurd H (by simp)
   ·rw [if_neg c6] at H
    have c6b0 : (t359 != t356) = false := by simpa using c6
    (try (have c6b1 : decide (t359 = t356) = true := by simpa using c6))
    (try (have c6b2 : (t359 == t356) = true := by simpa using c6))
    clear c6; obtain rfl := Option.some.inj H
    go_enter Try.func6, Try.ntmps6
    go_wp2_with (first | ((with_reducible refine gate_callee (f := 25) rfl ?_); refine goesL_ (some 11) rfl rfl Try.func25 (by kernel_rfl) rfl #[.int .i64 a0] rfl aq ?_; (with_reducible refine (spec_CountBodies.calls k a0 t354 t355 t356 _ A2.out).mono ?_); rintro e w7 ⟨rfl, hb⟩; refine ⟨_, rfl, ?_⟩; have n0_ := ak (below_step bq hb); clear HB; have HB := n0_; clear n0_; (try clear hb); (try clear hb2); (try clear hk); (try clear hi)) | ((with_reducible refine gate_callee (f := 26) rfl ?_); refine goesL_ (some 17) rfl rfl Try.func26 (by kernel_rfl) rfl #[.int .i64 a0] rfl aq ?_; (with_reducible refine (impl_CountBodies.calls k a0 t357 t358 t359 _ A3.out).mono ?_); rintro e w8 ⟨rfl, hb⟩; refine ⟨_, rfl, ?_⟩; have n0_ := ak (below_step bq hb); clear HB; have HB := n0_; clear n0_; (try clear hb); (try clear hb2); (try clear hk); (try clear hi)))
    go_ret; exact ⟨eq_, bq⟩
  ·rw [if_neg c5] at H
   exact absurd H (by simp)
 ·rw [if_neg c4] at H
  exact absurd H (by simp)

/-- THE ONE PURE STATEMENT of laws_FnExactCountBodies: yours. -/
def laws_FnExactCountBodies.Pure : Prop := ∀ (a0 : Int), (Lit.int .i64 a0).wf = true → ∃ k, laws_FnExactCountBodies.f k a0 = some true
theorem laws_FnExactCountBodies.walk (P : laws_FnExactCountBodies.Pure) (a0 : Int) (w : World) (w0 : (Lit.int .i64 a0).wf = true) :
  Calls Try.prog 6 #[.int .i64 a0] w fun e w' => e = .returned (.bool true) ∧ Below w.heap.size w w' := by
 obtain ⟨k, h⟩ := P a0 w0; refine (laws_FnExactCountBodies.calls k a0 true w h).mono ?_
 rintro e w' ⟨rfl, hd⟩
 exact ⟨rfl, hd⟩

end Go.Proofs.Ytckhmeadflafaaa.XCb
