/- Functions of the program as plain Lean functions, each with the proof that the machine's call does what it says: written by a program of this session out of the translation. -/
import Derived.Test.YtckhmeadflafaaaXSkx0
namespace Go.Proofs.Ytckhmeadflafaaa.XSk
open Go.RowKit Go.Proofs.YtckhmeadflafaaaW.PrintWords Go.Proofs.YtckhmeadflafaaaW.PrintLast Go.Proofs.YtckhmeadflafaaaW.PrintMore
attribute [local go_sem] max2_int min2_int max_two min_two max_three min_three max_four min_four   -- for this text's walks alone
set_option linter.unusedVariables false
set_option linter.unusedSimpArgs false

/-! ### laws_eqIntA2: function 59, by hand -/
def laws_eqIntA2.f (a0_0 a0_1 a1_0 a1_1 : Int) : Option (Bool) := some (decide (a0_0 = a1_0 ∧ a0_1 = a1_1))
set_option maxHeartbeats 2000000 in
set_option maxRecDepth 100000 in
theorem laws_eqIntA2.calls (a0_0 : Int) (a0_1 : Int) (a1_0 : Int) (a1_1 : Int) (r : Bool) (w : World) (h : laws_eqIntA2.f a0_0 a0_1 a1_0 a1_1 = some r) :
  Calls Try.prog 59 #[.agg #[.int .i64 a0_0, .int .i64 a0_1], .agg #[.int .i64 a1_0, .int .i64 a1_1]] w fun e w' => e = .returned (.bool r) ∧ Below w.heap.size w w' := by
 have hr := (Option.some.inj h).symm; clear h
 by_cases h0 : a0_0 = a1_0
 ·by_cases h1 : a0_1 = a1_1
  ·obtain rfl : r = true := by rw [hr]; exact decide_eq_true ⟨h0, h1⟩
   have k0 : (a0_0 != a1_0) = false := bne_eq_false_iff_eq.2 h0; have k1 : (a0_1 != a1_1) = false := bne_eq_false_iff_eq.2 h1; clear h0 h1 hr
   go_enter Try.func59, Try.ntmps59
   go_wp2; refine wp_loop_rounds 3 ?_; rw [rounds_succ]; go_wp2
   go_quiet (fail)
   go_wp2; rw [rounds_succ]; go_wp2
   go_quiet (fail)
   go_wp2; rw [rounds_succ]; go_wp2; go_ret; exact ⟨rfl, by repeat (first | exact Below.refl _ _ | apply below_alloc | apply pw_below_drewN | apply below_drew1)⟩
  ·obtain rfl : r = false := by rw [hr]; exact decide_eq_false (fun e => h1 e.2)
   have k0 : (a0_0 != a1_0) = false := bne_eq_false_iff_eq.2 h0; have k1 : (a0_1 != a1_1) = true := bne_iff_ne.2 h1; clear h0 h1 hr
   go_enter Try.func59, Try.ntmps59
   go_wp2; refine wp_loop_rounds 3 ?_; rw [rounds_succ]; go_wp2
   go_quiet (fail)
   go_wp2; rw [rounds_succ]; go_wp2
   go_quiet (fail)
   go_wp2; go_ret; exact ⟨rfl, by repeat (first | exact Below.refl _ _ | apply below_alloc | apply pw_below_drewN | apply below_drew1)⟩
 ·obtain rfl : r = false := by rw [hr]; exact decide_eq_false (fun e => h0 e.1)
  have k0 : (a0_0 != a1_0) = true := bne_iff_ne.2 h0; clear h0 hr
  go_enter Try.func59, Try.ntmps59
  go_wp2; refine wp_loop_rounds 3 ?_; rw [rounds_succ]; go_wp2
  go_quiet (fail)
  go_wp2; go_ret; exact ⟨rfl, by repeat (first | exact Below.refl _ _ | apply below_alloc | apply pw_below_drewN | apply below_drew1)⟩


end Go.Proofs.Ytckhmeadflafaaa.XSk
