/- Functions of the program as plain Lean functions, each with the proof that the machine's call does what it says: written by a program of this session out of the translation. -/
import Derived.Test.YtdbccenmfdjkjaaXFgx0
import Derived.Test.YtdbccenmfdjkjaaXFgx5
import Derived.Test.YtdbccenmfdjkjaaXFgx8
import Derived.Test.YtdbccenmfdjkjaaXFgx15
namespace Go.Proofs.Ytdbccenmfdjkjaa.XFg
open Go.RowKit Go.Proofs.YtdbccenmfdjkjaaW.PrintWords Go.Proofs.YtdbccenmfdjkjaaW.PrintLast Go.Proofs.YtdbccenmfdjkjaaW.PrintMore
attribute [local go_sem] max2_int min2_int max_two min_two max_three min_three max_four min_four   -- for this text's walks alone
set_option linter.unusedVariables false
set_option linter.unusedSimpArgs false

/-! ### impl_SplitAlike: function 17 -/
mutual
def impl_SplitAlike.j0 : Nat → List (S41) → Bool → Option (List Int × Bool)
 | 0, _, _ => none
 | k + 1, x0, x15 => if x15 = true then (some (([] : List Int), false)) else ((impl_momentAbout.f k x0 0).bind fun t366 => ((impl_weightOf.f k x0).bind fun t367 => (if t367 = 0 then (none) else (if (Int.tmod t366 t367) = 0 then ((impl_zeroGroups.f k x0 (wrap64 (Int.tdiv t366 t367))).bind fun t368 => (impl_SplitAlike.l0 k x0 t368 (t368.length : Int) 0)) else (some (([] : List Int), false))))))
def impl_SplitAlike.l0 : Nat → List (S41) → List (List Int) → Int → Int → Option (List Int × Bool)
 | 0, _, _, _, _ => none
 | k + 1, x0, x28, x29, x30 => if x30 < x29 then (if 0 ≤ x30 then (if x30 < (x28.length : Int) then (if ((rd_L4 x28 x30).length : Int) > 0 then (if ((rd_L4 x28 x30).length : Int) < (x0.length : Int) then (if 0 < ((rd_L4 x28 x30).length : Int) then (if (rd (rd_L4 x28 x30) 0) = 0 then (some (rd_L4 x28 x30, true)) else (impl_SplitAlike.l0 k x0 x28 x29 (wrap64 (x30 + 1)))) else (none)) else (impl_SplitAlike.l0 k x0 x28 x29 (wrap64 (x30 + 1)))) else (impl_SplitAlike.l0 k x0 x28 x29 (wrap64 (x30 + 1)))) else (none)) else (none)) else (some (([] : List Int), false))
end
def impl_SplitAlike.f (k : Nat) (l0 : List (S41)) : Option (List Int × Bool) := (impl_IsRow.f k l0).bind fun t365 => (if t365 = true then (impl_SplitAlike.j0 k l0 (decide ((l0.length : Int) < 2))) else (impl_SplitAlike.j0 k l0 true))
theorem impl_SplitAlike.mono_l : ∀ k, (∀ y0 y1, LeO (impl_SplitAlike.j0 k y0 y1) (impl_SplitAlike.j0 (k + 1) y0 y1)) ∧ (∀ y0 y1 y2 y3, LeO (impl_SplitAlike.l0 k y0 y1 y2 y3) (impl_SplitAlike.l0 (k + 1) y0 y1 y2 y3))
 | 0 => ⟨fun _ _ r h => by simp [impl_SplitAlike.j0] at h, fun _ _ _ _ r h => by simp [impl_SplitAlike.l0] at h⟩
 | k + 1 => by
  obtain ⟨ih0, ih1⟩ := impl_SplitAlike.mono_l k; refine ⟨?_, ?_⟩
  ·intro y0 y1
   unfold impl_SplitAlike.j0
   repeat' first
   | (with_reducible exact ih0 _ _)
   | (with_reducible exact ih1 _ _ _ _)
   | (with_reducible exact impl_IsRow.mono _ _)
   | (with_reducible exact impl_momentAbout.mono _ _ _)
   | (with_reducible exact impl_weightOf.mono _ _)
   | (with_reducible exact impl_zeroGroups.mono _ _ _)
   | (with_reducible exact LeO.refl _)
   | (with_reducible exact LeO.none _)
   | (with_reducible refine LeO.ite ?_ ?_)
   | (with_reducible refine LeO.bind ?_ (fun _ => ?_))
  ·intro y0 y1 y2 y3
   unfold impl_SplitAlike.l0
   repeat' first
   | (with_reducible exact ih0 _ _)
   | (with_reducible exact ih1 _ _ _ _)
   | (with_reducible exact impl_IsRow.mono _ _)
   | (with_reducible exact impl_momentAbout.mono _ _ _)
   | (with_reducible exact impl_weightOf.mono _ _)
   | (with_reducible exact impl_zeroGroups.mono _ _ _)
   | (with_reducible exact LeO.refl _)
   | (with_reducible exact LeO.none _)
   | (with_reducible refine LeO.ite ?_ ?_)
   | (with_reducible refine LeO.bind ?_ (fun _ => ?_))
theorem impl_SplitAlike.mono : ∀ a0 k, LeO (impl_SplitAlike.f k a0) (impl_SplitAlike.f (k + 1) a0) := by
 intro a0 k; obtain ⟨ih0, ih1⟩ := impl_SplitAlike.mono_l k
 unfold impl_SplitAlike.f
 repeat' first
   | (with_reducible exact ih0 _ _)
   | (with_reducible exact ih1 _ _ _ _)
   | (with_reducible exact impl_IsRow.mono _ _)
   | (with_reducible exact impl_momentAbout.mono _ _ _)
   | (with_reducible exact impl_weightOf.mono _ _)
   | (with_reducible exact impl_zeroGroups.mono _ _ _)
   | (with_reducible exact LeO.refl _)
   | (with_reducible exact LeO.none _)
   | (with_reducible refine LeO.ite ?_ ?_)
   | (with_reducible refine LeO.bind ?_ (fun _ => ?_))
set_option maxHeartbeats 8000000 in
set_option maxRecDepth 100000 in
theorem impl_SplitAlike.calls (k : Nat) (A0 : Option Addr) (c0 : Nat) (l0 : List (S41)) (r1 : List Int) (r2 : Bool) (w : World) (hr0 : Kd.C k41 w A0 l0.length l0) (hc0 : l0.length ≤ c0) (h : impl_SplitAlike.f k l0 = some (r1, r2)) :
  Calls Try.prog 17 #[.slice A0 l0.length c0] w fun e w' => ∃ v0_ : Value, e = .returned (.tuple #[v0_, .bool r2]) ∧ Kd.R (Kd.int .i64) 3 w' w.heap.size (fun _ => True) v0_ r1 ∧ Below w.heap.size w w' := by
 have HR0 := Aside0.mk hr0; have HC0 := Aside0.mk hc0; clear hr0 hc0; have HB := Aside0.mk (Below.refl w.heap.size w); have H : ((impl_IsRow.f k l0).bind fun t365 => (if t365 = true then (impl_SplitAlike.j0 k l0 (decide ((l0.length : Int) < 2))) else (impl_SplitAlike.j0 k l0 true))) = some (r1, r2) := h; clear h; have HC2 := Aside0.mk H; clear H
 go_enter Try.func17, Try.ntmps17
 go_upto_region 1 with (fail)
 go_cut [15] (fun v15 wc => ∃ (kq : Nat) (x15_1 : Bool), v15 = .bool x15_1 ∧ Aside0 (impl_SplitAlike.j0 kq l0 x15_1 = some (r1, r2)) ∧ Aside0 (kq ≤ k) ∧ Aside0 (Below w.heap.size w wc))
 case first =>
  have H := HC2.out; clear HC2; replace H := Option.bind_eq_some_iff.mp H; obtain ⟨t365, A30, H⟩ := H; replace H : (if t365 = true then (impl_SplitAlike.j0 k l0 (decide ((l0.length : Int) < 2))) else (impl_SplitAlike.j0 k l0 true)) = some (r1, r2) := H; have A3 := Aside0.mk A30; clear A30
  by_cases c4 : t365 = true
  ·subst c4
   have H1 : (impl_SplitAlike.j0 k l0 (decide ((l0.length : Int) < 2))) = some (r1, r2) := by rw [if_pos rfl] at H; exact H
   clear H; have H := H1; clear H1; have H' := Aside0.mk H; clear H
   go_wp2_with (first | ((with_reducible refine gate_callee (f := 41) rfl ?_); refine goesL_ (some 9) rfl rfl Try.func41 (by kernel_rfl) rfl #[.slice A0 l0.length c0] rfl (by (try simp only [List.map_toArray, List.map_cons, List.map_nil]); first | done | rfl | (simp only [List.length_drop, List.length_take]; rfl)) ?_; (with_reducible refine (impl_IsRow.calls k _ _ l0 true _ ?side1 ?side2 A3.out).mono ?_); (case side1 => repeat (first | exact (Kd.C_below HR0.out HB.out) | (with_reducible refine Kd.C_alloc ?_ _) | (with_reducible refine Kd.C_drewN ?_ _) | (with_reducible refine Kd.C_drew ?_))); (case side2 => exact HC0.out); rintro e w5 ⟨rfl, hb⟩; refine ⟨_, rfl, ?_⟩; have n0_ := Aside0.mk (below_step (by repeat (first | (with_reducible first | exact HB.out | apply below_alloc | apply pw_below_drewN | apply below_drew1) | exact HB.out)) hb); clear HB; have HB := n0_; clear n0_; (try clear hb); (try clear hb2); (try clear hk); (try clear hi)))
   go_meet
   case rel => exact ⟨_, (decide ((l0.length : Int) < 2)), (by first | rfl | (simp; done) | (simp [*]; done)), H', ⟨by first | omega | exact Nat.le_refl _⟩, ⟨by repeat (first | (with_reducible first | exact HB.out | apply below_alloc | apply pw_below_drewN | apply below_drew1) | exact HB.out)⟩⟩
  ·replace c4 := Bool.eq_false_iff.mpr c4
   subst c4
   have H1 : (impl_SplitAlike.j0 k l0 true) = some (r1, r2) := by rw [if_neg (show ¬ (false = true) by decide)] at H; exact H
   clear H; have H := H1; clear H1; have H' := Aside0.mk H; clear H
   go_wp2_with (first | ((with_reducible refine gate_callee (f := 41) rfl ?_); refine goesL_ (some 9) rfl rfl Try.func41 (by kernel_rfl) rfl #[.slice A0 l0.length c0] rfl (by (try simp only [List.map_toArray, List.map_cons, List.map_nil]); first | done | rfl | (simp only [List.length_drop, List.length_take]; rfl)) ?_; (with_reducible refine (impl_IsRow.calls k _ _ l0 false _ ?side1 ?side2 A3.out).mono ?_); (case side1 => repeat (first | exact (Kd.C_below HR0.out HB.out) | (with_reducible refine Kd.C_alloc ?_ _) | (with_reducible refine Kd.C_drewN ?_ _) | (with_reducible refine Kd.C_drew ?_))); (case side2 => exact HC0.out); rintro e w6 ⟨rfl, hb⟩; refine ⟨_, rfl, ?_⟩; have n0_ := Aside0.mk (below_step (by repeat (first | (with_reducible first | exact HB.out | apply below_alloc | apply pw_below_drewN | apply below_drew1) | exact HB.out)) hb); clear HB; have HB := n0_; clear n0_; (try clear hb); (try clear hb2); (try clear hk); (try clear hi)))
   go_meet
   case rel => exact ⟨_, (true), (by first | rfl | (simp; done) | (simp [*]; done)), H', ⟨by first | omega | exact Nat.le_refl _⟩, ⟨by repeat (first | (with_reducible first | exact HB.out | apply below_alloc | apply pw_below_drewN | apply below_drew1) | exact HB.out)⟩⟩
 case rest =>
  clear HC2; (try clear c1); (try clear p2); (try clear c4); obtain ⟨kq, x15_1, rfl, HA, HJ1, HB⟩ := hcut
  cases kq with
  | zero => exact absurd HA.out (by simp [impl_SplitAlike.j0])
  | succ kj1 =>
   have H := HA.out; clear HA; simp only [impl_SplitAlike.j0] at H
   by_cases c7 : x15_1 = true
   ·subst c7
    have H1 : (some (([] : List Int), false)) = some (r1, r2) := by rw [if_pos rfl] at H; exact H
    clear H; have H := H1; clear H1; simp only [Option.some.injEq, Prod.mk.injEq] at H; obtain ⟨rfl, rfl⟩ := H; go_wp2
    go_ret2
    exact ⟨_, by first | rfl | (simp [errW_none, errW_some] <;> rfl) | (simp [*, errW_none, errW_some] <;> rfl), by first | exact Kd.R_nil _ _ _ _ _ | exact Kd.N_nil _ _ _ _ _ | exact Kd.V_nil _ _ _ _ _ | exact Kd.Q_nil _ _ _ _ _ | exact Kd.S_nil _ _ _ _ _, by repeat (first | (with_reducible first | exact HB.out | apply below_alloc | apply pw_below_drewN | apply below_drew1) | exact HB.out)⟩
   ·replace c7 := Bool.eq_false_iff.mpr c7
    subst c7
    have H1 : ((impl_momentAbout.f kj1 l0 0).bind fun t366 => ((impl_weightOf.f kj1 l0).bind fun t367 => (if t367 = 0 then (none) else (if (Int.tmod t366 t367) = 0 then ((impl_zeroGroups.f kj1 l0 (wrap64 (Int.tdiv t366 t367))).bind fun t368 => (impl_SplitAlike.l0 kj1 l0 t368 (t368.length : Int) 0)) else (some (([] : List Int), false)))))) = some (r1, r2) := by rw [if_neg (show ¬ (false = true) by decide)] at H; exact H
    clear H; have H := H1; clear H1; replace H := Option.bind_eq_some_iff.mp H; obtain ⟨t366, A80, H⟩ := H; replace H : ((impl_weightOf.f kj1 l0).bind fun t367 => (if t367 = 0 then (none) else (if (Int.tmod t366 t367) = 0 then ((impl_zeroGroups.f kj1 l0 (wrap64 (Int.tdiv t366 t367))).bind fun t368 => (impl_SplitAlike.l0 kj1 l0 t368 (t368.length : Int) 0)) else (some (([] : List Int), false))))) = some (r1, r2) := H; have A8 := Aside0.mk A80; clear A80; replace H := Option.bind_eq_some_iff.mp H; obtain ⟨t367, A90, H⟩ := H; replace H : (if t367 = 0 then (none) else (if (Int.tmod t366 t367) = 0 then ((impl_zeroGroups.f kj1 l0 (wrap64 (Int.tdiv t366 t367))).bind fun t368 => (impl_SplitAlike.l0 kj1 l0 t368 (t368.length : Int) 0)) else (some (([] : List Int), false)))) = some (r1, r2) := H; have A9 := Aside0.mk A90; clear A90
    by_cases c10 : t367 = 0
    ·rw [if_pos c10] at H
     exact absurd H (by simp)
    ·rw [if_neg c10] at H
     have c10b0 : (t367 == 0) = false := beq_eq_false_iff_ne.mpr c10; have c10b1 : (t367 != 0) = true := bne_iff_ne.mpr c10
     by_cases c11 : (Int.tmod t366 t367) = 0
     ·rw [if_pos c11] at H
      have c11b0 : ((Int.tmod t366 t367) == 0) = true := beq_iff_eq.mpr c11; have c11b1 : ((Int.tmod t366 t367) != 0) = false := bne_eq_false_iff_eq.mpr c11; clear c11; replace H := Option.bind_eq_some_iff.mp H; obtain ⟨t368, A120, H⟩ := H; replace H : (impl_SplitAlike.l0 kj1 l0 t368 (t368.length : Int) 0) = some (r1, r2) := H; have A12 := Aside0.mk A120; clear A120; have H' := Aside0.mk H; clear H
      go_wp2_with (first | ((with_reducible refine gate_callee (f := 51) rfl ?_); refine goesL_ (some 17) rfl rfl Try.func51 (by kernel_rfl) rfl #[.slice A0 l0.length c0, .int .i64 0] rfl (by (try simp only [List.map_toArray, List.map_cons, List.map_nil]); first | done | rfl | (simp only [List.length_drop, List.length_take]; rfl)) ?_; (with_reducible refine (impl_momentAbout.calls kj1 _ _ l0 0 t366 _ ?side1 ?side2 A8.out).mono ?_); (case side1 => repeat (first | exact (Kd.C_below HR0.out HB.out) | (with_reducible refine Kd.C_alloc ?_ _) | (with_reducible refine Kd.C_drewN ?_ _) | (with_reducible refine Kd.C_drew ?_))); (case side2 => exact HC0.out); rintro e w13 ⟨rfl, hb⟩; refine ⟨_, rfl, ?_⟩; have n0_ := Aside0.mk (below_step (by repeat (first | (with_reducible first | exact HB.out | apply below_alloc | apply pw_below_drewN | apply below_drew1) | exact HB.out)) hb); clear HB; have HB := n0_; clear n0_; (try clear hb); (try clear hb2); (try clear hk); (try clear hi)) | ((with_reducible refine gate_callee (f := 52) rfl ?_); refine goesL_ (some 19) rfl rfl Try.func52 (by kernel_rfl) rfl #[.slice A0 l0.length c0] rfl (by (try simp only [List.map_toArray, List.map_cons, List.map_nil]); first | done | rfl | (simp only [List.length_drop, List.length_take]; rfl)) ?_; (with_reducible refine (impl_weightOf.calls kj1 _ _ l0 t367 _ ?side1 ?side2 A9.out).mono ?_); (case side1 => repeat (first | exact (Kd.C_below HR0.out HB.out) | (with_reducible refine Kd.C_alloc ?_ _) | (with_reducible refine Kd.C_drewN ?_ _) | (with_reducible refine Kd.C_drew ?_))); (case side2 => exact HC0.out); rintro e w14 ⟨rfl, hb⟩; refine ⟨_, rfl, ?_⟩; have n0_ := Aside0.mk (below_step (by repeat (first | (with_reducible first | exact HB.out | apply below_alloc | apply pw_below_drewN | apply below_drew1) | exact HB.out)) hb); clear HB; have HB := n0_; clear n0_; (try clear hb); (try clear hb2); (try clear hk); (try clear hi)) | ((with_reducible refine gate_callee (f := 43) rfl ?_); refine goesL_ (some 28) rfl rfl Try.func43 (by kernel_rfl) rfl #[.slice A0 l0.length c0, .int .i64 (wrap64 (Int.tdiv t366 t367))] rfl (by (try simp only [List.map_toArray, List.map_cons, List.map_nil]); first | done | rfl | (simp only [List.length_drop, List.length_take]; rfl)) ?_; (with_reducible refine (impl_zeroGroups.calls kj1 _ _ l0 (wrap64 (Int.tdiv t366 t367)) t368 _ ?side1 ?side2 A12.out).mono ?_); (case side1 => repeat (first | exact (Kd.C_below HR0.out HB.out) | (with_reducible refine Kd.C_alloc ?_ _) | (with_reducible refine Kd.C_drewN ?_ _) | (with_reducible refine Kd.C_drew ?_))); (case side2 => exact HC0.out); rintro e w15 ⟨v369, rfl, ho0, hb⟩; refine ⟨_, rfl, ?_⟩; have n0_ := Aside0.mk (Kd.S_lower ho0 (below_size (by repeat (first | (with_reducible first | exact HB.out | apply below_alloc | apply pw_below_drewN | apply below_drew1) | exact HB.out)))); have n1_ := Aside0.mk (below_step (by repeat (first | (with_reducible first | exact HB.out | apply below_alloc | apply pw_below_drewN | apply below_drew1) | exact HB.out)) hb); clear HB; have HO370 := n0_; have HB := n1_; clear n0_ n1_; (try clear hb); (try clear hb2); (try clear hk); (try clear hi); (try clear ho0); obtain ⟨Ao16, co16, eo16⟩ := Kd.S_slice HO370.out; subst eo16))
      (try simp only [Act.put, sA, sZ, sS])
      go_loopg [30] kj1 (fun kq v30 w' => ∃ (x30_2 : Int), v30 = .int .i64 x30_2 ∧ Aside0 (impl_SplitAlike.l0 kq l0 t368 (t368.length : Int) x30_2 = some (r1, r2)) ∧ Aside0 (kq ≤ kj1) ∧ Aside0 (Kd.S (Kd.slice 3 (Kd.int .i64)) 34 w' w.heap.size (fun _ => True) (.slice Ao16 t368.length co16) t368) ∧ Aside0 (Below w.heap.size w w'))
      case atStart => exact ⟨(0), (by first | rfl | (simp; done) | (simp [*]; done)), H', ⟨Nat.le_refl _⟩, ⟨by (with_reducible repeat (first | apply Kd.S_alloc | apply Kd.S_drewN | apply Kd.S_drew)); exact HO370.out⟩, ⟨by repeat (first | (with_reducible first | exact HB.out | apply below_alloc | apply pw_below_drewN | apply below_drew1) | exact HB.out | exact Below.refl _ _)⟩⟩
      case round =>
       clear H'; (try clear c1); (try clear p2); (try clear c4); (try clear c5); (try clear p6); (try clear c7); (try clear c10); (try clear c10b0); (try clear c10b1); (try clear c11); (try clear c11b0); (try clear c11b1); (try clear p2); obtain ⟨x30_2, rfl, HA, HK2, HO_28, HB⟩ := hrel
       cases gk with
       | zero => exact absurd HA.out (by simp [impl_SplitAlike.l0])
       | succ k2 =>
        have H := HA.out; clear HA; simp only [impl_SplitAlike.l0] at H
        by_cases c17 : x30_2 < (t368.length : Int)
        ·rw [if_pos c17] at H
         have c17b0 : decide (x30_2 < (t368.length : Int)) = true := decide_eq_true c17; clear c17
         by_cases c18 : 0 ≤ x30_2
         ·rw [if_pos c18] at H
          have c18b0 : decide (0 ≤ x30_2) = true := decide_eq_true c18; clear c18
          by_cases c19 : x30_2 < (t368.length : Int)
          ·rw [if_pos c19] at H
           have c19b0 : decide (x30_2 < (t368.length : Int)) = true := decide_eq_true c19; clear c19
           by_cases c20 : ((rd_L4 t368 x30_2).length : Int) > 0
           ·rw [if_pos c20] at H
            have c20b0 : decide (0 < ((rd_L4 t368 x30_2).length : Int)) = true := decide_eq_true c20; have c20b1 : decide (0 < (rd_L4 t368 x30_2).length) = true := decide_eq_true (by omega); clear c20
            by_cases c21 : ((rd_L4 t368 x30_2).length : Int) < (l0.length : Int)
            ·rw [if_pos c21] at H
             have c21b0 : decide (((rd_L4 t368 x30_2).length : Int) < (l0.length : Int)) = true := decide_eq_true c21; have c21b1 : decide ((rd_L4 t368 x30_2).length < l0.length) = true := decide_eq_true (Int.ofNat_lt.mp c21); clear c21
             by_cases c22 : 0 < ((rd_L4 t368 x30_2).length : Int)
             ·rw [if_pos c22] at H
              have c22b0 : decide (0 < ((rd_L4 t368 x30_2).length : Int)) = true := decide_eq_true c22; have c22b1 : decide (0 < (rd_L4 t368 x30_2).length) = true := decide_eq_true (by omega); clear c22
              by_cases c23 : (rd (rd_L4 t368 x30_2) 0) = 0
              ·rw [if_pos c23] at H
               have c23b0 : ((rd (rd_L4 t368 x30_2) 0) == 0) = true := beq_iff_eq.mpr c23; have c23b1 : ((rd (rd_L4 t368 x30_2) 0) != 0) = false := bne_eq_false_iff_eq.mpr c23; clear c23; simp only [Option.some.injEq, Prod.mk.injEq] at H; obtain ⟨rfl, rfl⟩ := H; have p371 : 0 ≤ (x30_2 : Int) := of_decide_eq_true (by first | (with_reducible assumption) | assumption); have q371 : x30_2 < (t368.length : Int) := of_decide_eq_true (by first | (with_reducible assumption) | assumption); obtain ⟨ad371, A371_0, c371_0, e371, hx371_0, hl371_0, hi371_0⟩ := at_L4 (Kd.S_reads' HO_28.out).2.2 x30_2 p371 q371; cases e371; obtain ⟨ce371, hce371, hMe371, hcc371⟩ := Kd.S_get HO_28.out [] x30_2 p371 (by first | exact q371 | exact of_decide_eq_true (by first | (with_reducible assumption) | assumption) | (have e_ := (Kd.S_reads' HO_28.out).1; omega)); obtain ⟨ve371_0, rfl, ge371_0⟩ := hMe371; have hv371_0 := hcc371 0 _ rfl; rw [Nat.add_zero, show ((Kd.slice 3 (Kd.int .i64))).sz = 1 from rfl, Nat.mul_one] at hv371_0; replace hv371_0 := Option.some.inj (hv371_0.symm.trans hx371_0); rw [hv371_0] at ge371_0; have HL371_0 := Aside0.mk (show Kd.R (Kd.int .i64) 3 _ _ _ _ (rd_L4 t368 x30_2) from ge371_0); clear hv371_0 ge371_0; clear hcc371 hce371; have HR371_0 := Aside0.mk hi371_0; have HC371_0 := Aside0.mk hl371_0; clear hi371_0 hl371_0; replace p371 := eq_true p371; replace q371 := eq_true q371; have p372 : 0 ≤ (0 : Int) := (by omega); have q372 : 0 < ((rd_L4 t368 x30_2).length : Int) := of_decide_eq_true (by first | (with_reducible assumption) | assumption); obtain ⟨ad372, e372, hx372_0⟩ := Kd.at_int (by repeat (first | (with_reducible exact HR371_0.out) | (with_reducible refine Kd.C_alloc ?_ _) | (with_reducible refine Kd.C_drewN ?_ _) | (with_reducible refine Kd.C_drew ?_) | exact HR371_0.out)) 0 p372 q372; cases e372; have qi372 : (0 < (rd_L4 t368 x30_2).length) = True := eq_true (by omega)
               (try rw [show ((0 : Int)).toNat = 0 from rfl] at hx372_0)
               (try rw [Addr.add_zero'] at hx372_0)
               replace p372 := eq_true p372; replace q372 := eq_true q372; go_wp2
               go_ret2
               exact ⟨_, by first | rfl | (simp [errW_none, errW_some] <;> rfl) | (simp [*, errW_none, errW_some] <;> rfl), by (with_reducible repeat (first | apply Kd.R_alloc | apply Kd.R_drewN | apply Kd.R_drew)); exact Kd.R_mono HL371_0.out (fun _ hk => trivial), by repeat (first | (with_reducible first | exact HB.out | apply below_alloc | apply pw_below_drewN | apply below_drew1) | exact HB.out)⟩
              ·rw [if_neg c23] at H
               have c23b0 : ((rd (rd_L4 t368 x30_2) 0) == 0) = false := beq_eq_false_iff_ne.mpr c23; have c23b1 : ((rd (rd_L4 t368 x30_2) 0) != 0) = true := bne_iff_ne.mpr c23; have H' := Aside0.mk H; clear H; have p371 : 0 ≤ (x30_2 : Int) := of_decide_eq_true (by first | (with_reducible assumption) | assumption); have q371 : x30_2 < (t368.length : Int) := of_decide_eq_true (by first | (with_reducible assumption) | assumption); obtain ⟨ad371, A371_0, c371_0, e371, hx371_0, hl371_0, hi371_0⟩ := at_L4 (Kd.S_reads' HO_28.out).2.2 x30_2 p371 q371; cases e371; obtain ⟨ce371, hce371, hMe371, hcc371⟩ := Kd.S_get HO_28.out [] x30_2 p371 (by first | exact q371 | exact of_decide_eq_true (by first | (with_reducible assumption) | assumption) | (have e_ := (Kd.S_reads' HO_28.out).1; omega)); obtain ⟨ve371_0, rfl, ge371_0⟩ := hMe371; have hv371_0 := hcc371 0 _ rfl; rw [Nat.add_zero, show ((Kd.slice 3 (Kd.int .i64))).sz = 1 from rfl, Nat.mul_one] at hv371_0; replace hv371_0 := Option.some.inj (hv371_0.symm.trans hx371_0); rw [hv371_0] at ge371_0; have HL371_0 := Aside0.mk (show Kd.R (Kd.int .i64) 3 _ _ _ _ (rd_L4 t368 x30_2) from ge371_0); clear hv371_0 ge371_0; clear hcc371 hce371; have HR371_0 := Aside0.mk hi371_0; have HC371_0 := Aside0.mk hl371_0; clear hi371_0 hl371_0; replace p371 := eq_true p371; replace q371 := eq_true q371; have p372 : 0 ≤ (0 : Int) := (by omega); have q372 : 0 < ((rd_L4 t368 x30_2).length : Int) := of_decide_eq_true (by first | (with_reducible assumption) | assumption); obtain ⟨ad372, e372, hx372_0⟩ := Kd.at_int (by repeat (first | (with_reducible exact HR371_0.out) | (with_reducible refine Kd.C_alloc ?_ _) | (with_reducible refine Kd.C_drewN ?_ _) | (with_reducible refine Kd.C_drew ?_) | exact HR371_0.out)) 0 p372 q372; cases e372; have qi372 : (0 < (rd_L4 t368 x30_2).length) = True := eq_true (by omega)
               (try rw [show ((0 : Int)).toNat = 0 from rfl] at hx372_0)
               (try rw [Addr.add_zero'] at hx372_0)
               replace p372 := eq_true p372; replace q372 := eq_true q372; go_wp2; go_roundg k2
               case measure => have := HJ1.out; have := HK2.out; omega
               case rel => exact ⟨(wrap64 (x30_2 + 1)), (by first | rfl | (simp; done) | (simp [*]; done)), H', ⟨by have := HJ1.out; have := HK2.out; omega⟩, ⟨by (with_reducible repeat (first | apply Kd.S_alloc | apply Kd.S_drewN | apply Kd.S_drew)); exact HO_28.out⟩, ⟨by repeat (first | (with_reducible first | exact HB.out | apply below_alloc | apply pw_below_drewN | apply below_drew1) | exact HB.out)⟩⟩
             ·rw [if_neg c22] at H
              exact absurd H (by simp)
            ·rw [if_neg c21] at H
             have c21b0 : decide (((rd_L4 t368 x30_2).length : Int) < (l0.length : Int)) = false := decide_eq_false c21; have c21b1 : decide ((rd_L4 t368 x30_2).length < l0.length) = false := decide_eq_false (fun h => c21 (Int.ofNat_lt.mpr h)); clear c21; have H' := Aside0.mk H; clear H; have p371 : 0 ≤ (x30_2 : Int) := of_decide_eq_true (by first | (with_reducible assumption) | assumption); have q371 : x30_2 < (t368.length : Int) := of_decide_eq_true (by first | (with_reducible assumption) | assumption); obtain ⟨ad371, A371_0, c371_0, e371, hx371_0, hl371_0, hi371_0⟩ := at_L4 (Kd.S_reads' HO_28.out).2.2 x30_2 p371 q371; cases e371; obtain ⟨ce371, hce371, hMe371, hcc371⟩ := Kd.S_get HO_28.out [] x30_2 p371 (by first | exact q371 | exact of_decide_eq_true (by first | (with_reducible assumption) | assumption) | (have e_ := (Kd.S_reads' HO_28.out).1; omega)); obtain ⟨ve371_0, rfl, ge371_0⟩ := hMe371; have hv371_0 := hcc371 0 _ rfl; rw [Nat.add_zero, show ((Kd.slice 3 (Kd.int .i64))).sz = 1 from rfl, Nat.mul_one] at hv371_0; replace hv371_0 := Option.some.inj (hv371_0.symm.trans hx371_0); rw [hv371_0] at ge371_0; have HL371_0 := Aside0.mk (show Kd.R (Kd.int .i64) 3 _ _ _ _ (rd_L4 t368 x30_2) from ge371_0); clear hv371_0 ge371_0; clear hcc371 hce371; have HR371_0 := Aside0.mk hi371_0; have HC371_0 := Aside0.mk hl371_0; clear hi371_0 hl371_0; replace p371 := eq_true p371; replace q371 := eq_true q371; go_wp2; go_roundg k2
             case measure => have := HJ1.out; have := HK2.out; omega
             case rel => exact ⟨(wrap64 (x30_2 + 1)), (by first | rfl | (simp; done) | (simp [*]; done)), H', ⟨by have := HJ1.out; have := HK2.out; omega⟩, ⟨by (with_reducible repeat (first | apply Kd.S_alloc | apply Kd.S_drewN | apply Kd.S_drew)); exact HO_28.out⟩, ⟨by repeat (first | (with_reducible first | exact HB.out | apply below_alloc | apply pw_below_drewN | apply below_drew1) | exact HB.out)⟩⟩
           ·rw [if_neg c20] at H
            have c20b0 : decide (0 < ((rd_L4 t368 x30_2).length : Int)) = false := decide_eq_false c20; have c20b1 : decide (0 < (rd_L4 t368 x30_2).length) = false := decide_eq_false (by omega); clear c20; have H' := Aside0.mk H; clear H; have p371 : 0 ≤ (x30_2 : Int) := of_decide_eq_true (by first | (with_reducible assumption) | assumption); have q371 : x30_2 < (t368.length : Int) := of_decide_eq_true (by first | (with_reducible assumption) | assumption); obtain ⟨ad371, A371_0, c371_0, e371, hx371_0, hl371_0, hi371_0⟩ := at_L4 (Kd.S_reads' HO_28.out).2.2 x30_2 p371 q371; cases e371; obtain ⟨ce371, hce371, hMe371, hcc371⟩ := Kd.S_get HO_28.out [] x30_2 p371 (by first | exact q371 | exact of_decide_eq_true (by first | (with_reducible assumption) | assumption) | (have e_ := (Kd.S_reads' HO_28.out).1; omega)); obtain ⟨ve371_0, rfl, ge371_0⟩ := hMe371; have hv371_0 := hcc371 0 _ rfl; rw [Nat.add_zero, show ((Kd.slice 3 (Kd.int .i64))).sz = 1 from rfl, Nat.mul_one] at hv371_0; replace hv371_0 := Option.some.inj (hv371_0.symm.trans hx371_0); rw [hv371_0] at ge371_0; have HL371_0 := Aside0.mk (show Kd.R (Kd.int .i64) 3 _ _ _ _ (rd_L4 t368 x30_2) from ge371_0); clear hv371_0 ge371_0; clear hcc371 hce371; have HR371_0 := Aside0.mk hi371_0; have HC371_0 := Aside0.mk hl371_0; clear hi371_0 hl371_0; replace p371 := eq_true p371; replace q371 := eq_true q371; go_wp2; go_roundg k2
            case measure => have := HJ1.out; have := HK2.out; omega
            case rel => exact ⟨(wrap64 (x30_2 + 1)), (by first | rfl | (simp; done) | (simp [*]; done)), H', ⟨by have := HJ1.out; have := HK2.out; omega⟩, ⟨by (with_reducible repeat (first | apply Kd.S_alloc | apply Kd.S_drewN | apply Kd.S_drew)); exact HO_28.out⟩, ⟨by repeat (first | (with_reducible first | exact HB.out | apply below_alloc | apply pw_below_drewN | apply below_drew1) | exact HB.out)⟩⟩
          ·rw [if_neg c19] at H
           exact absurd H (by simp)
         ·rw [if_neg c18] at H
          exact absurd H (by simp)
        ·rw [if_neg c17] at H
         have c17b0 : decide (x30_2 < (t368.length : Int)) = false := decide_eq_false c17; clear c17; simp only [Option.some.injEq, Prod.mk.injEq] at H; obtain ⟨rfl, rfl⟩ := H; go_wp2
         go_ret2
         exact ⟨_, by first | rfl | (simp [errW_none, errW_some] <;> rfl) | (simp [*, errW_none, errW_some] <;> rfl), by first | exact Kd.R_nil _ _ _ _ _ | exact Kd.N_nil _ _ _ _ _ | exact Kd.V_nil _ _ _ _ _ | exact Kd.Q_nil _ _ _ _ _ | exact Kd.S_nil _ _ _ _ _, by repeat (first | (with_reducible first | exact HB.out | apply below_alloc | apply pw_below_drewN | apply below_drew1) | exact HB.out)⟩
     ·rw [if_neg c11] at H
      have c11b0 : ((Int.tmod t366 t367) == 0) = false := beq_eq_false_iff_ne.mpr c11; have c11b1 : ((Int.tmod t366 t367) != 0) = true := bne_iff_ne.mpr c11; simp only [Option.some.injEq, Prod.mk.injEq] at H; obtain ⟨rfl, rfl⟩ := H
      go_wp2_with (first | ((with_reducible refine gate_callee (f := 51) rfl ?_); refine goesL_ (some 17) rfl rfl Try.func51 (by kernel_rfl) rfl #[.slice A0 l0.length c0, .int .i64 0] rfl (by (try simp only [List.map_toArray, List.map_cons, List.map_nil]); first | done | rfl | (simp only [List.length_drop, List.length_take]; rfl)) ?_; (with_reducible refine (impl_momentAbout.calls kj1 _ _ l0 0 t366 _ ?side1 ?side2 A8.out).mono ?_); (case side1 => repeat (first | exact (Kd.C_below HR0.out HB.out) | (with_reducible refine Kd.C_alloc ?_ _) | (with_reducible refine Kd.C_drewN ?_ _) | (with_reducible refine Kd.C_drew ?_))); (case side2 => exact HC0.out); rintro e w24 ⟨rfl, hb⟩; refine ⟨_, rfl, ?_⟩; have n0_ := Aside0.mk (below_step (by repeat (first | (with_reducible first | exact HB.out | apply below_alloc | apply pw_below_drewN | apply below_drew1) | exact HB.out)) hb); clear HB; have HB := n0_; clear n0_; (try clear hb); (try clear hb2); (try clear hk); (try clear hi)) | ((with_reducible refine gate_callee (f := 52) rfl ?_); refine goesL_ (some 19) rfl rfl Try.func52 (by kernel_rfl) rfl #[.slice A0 l0.length c0] rfl (by (try simp only [List.map_toArray, List.map_cons, List.map_nil]); first | done | rfl | (simp only [List.length_drop, List.length_take]; rfl)) ?_; (with_reducible refine (impl_weightOf.calls kj1 _ _ l0 t367 _ ?side1 ?side2 A9.out).mono ?_); (case side1 => repeat (first | exact (Kd.C_below HR0.out HB.out) | (with_reducible refine Kd.C_alloc ?_ _) | (with_reducible refine Kd.C_drewN ?_ _) | (with_reducible refine Kd.C_drew ?_))); (case side2 => exact HC0.out); rintro e w25 ⟨rfl, hb⟩; refine ⟨_, rfl, ?_⟩; have n0_ := Aside0.mk (below_step (by repeat (first | (with_reducible first | exact HB.out | apply below_alloc | apply pw_below_drewN | apply below_drew1) | exact HB.out)) hb); clear HB; have HB := n0_; clear n0_; (try clear hb); (try clear hb2); (try clear hk); (try clear hi)))
      go_ret2
      exact ⟨_, by first | rfl | (simp [errW_none, errW_some] <;> rfl) | (simp [*, errW_none, errW_some] <;> rfl), by first | exact Kd.R_nil _ _ _ _ _ | exact Kd.N_nil _ _ _ _ _ | exact Kd.V_nil _ _ _ _ _ | exact Kd.Q_nil _ _ _ _ _ | exact Kd.S_nil _ _ _ _ _, by repeat (first | (with_reducible first | exact HB.out | apply below_alloc | apply pw_below_drewN | apply below_drew1) | exact HB.out)⟩

end Go.Proofs.Ytdbccenmfdjkjaa.XFg
