/- Functions of the program as plain Lean functions, each with the proof that the machine's call does what it says: written by a program of this session out of the translation. -/
import Derived.Test.YtkedfmmmjopofaaXTix0
import Derived.Test.YtkedfmmmjopofaaXTix4
import Derived.Test.YtkedfmmmjopofaaXTix6
import Derived.Test.YtkedfmmmjopofaaXTix10
namespace Go.Proofs.Ytkedfmmmjopofaa.XTi
open Go.RowKit Go.Proofs.YtkedfmmmjopofaaW.PrintWords Go.Proofs.YtkedfmmmjopofaaW.PrintLast Go.Proofs.YtkedfmmmjopofaaW.PrintMore
attribute [local go_sem] max2_int min2_int max_two min_two max_three min_three max_four min_four   -- for this text's walks alone
set_option linter.unusedVariables false
set_option linter.unusedSimpArgs false

/-! ### impl_eachTilt_CountTilts_1: function 45, by hand -/
/-- A tilt's sign at a place. -/
def impl_eachTilt_CountTilts_1.sg (n code i : Int) : Int := wrap64 ((wrap64 (2 * (Go.bits .and .i64 (shr .i64 code (wrap64 ((wrap64 (n - 1)) - i))) 1))) - 1)
/-- A tilt's signs and its moment. -/
def impl_eachTilt_CountTilts_1.li : Nat → List Int → List Int → Int → Int → List Int → Int → Int → Option (List Int × Int)
 | 0, _, _, _, _, _, _, _ => none
 | k + 1, l0, l1, n, code, s, m, i => if i < (l0.length : Int) then (if 0 ≤ i then (if 0 ≤ (wrap64 ((wrap64 (n - 1)) - i)) then (if s.length < 17592186044416 then (if i < (l1.length : Int) then (impl_eachTilt_CountTilts_1.li k l0 l1 n code (s ++ [wrap64 ((wrap64 (2 * (Go.bits .and .i64 (shr .i64 code (wrap64 ((wrap64 (n - 1)) - i))) 1))) - 1)]) (wrap64 (m + wrap64 (wrap64 (wrap64 ((wrap64 (2 * (Go.bits .and .i64 (shr .i64 code (wrap64 ((wrap64 (n - 1)) - i))) 1))) - 1) * rd l0 i) * rd l1 i))) (wrap64 (i + 1))) else none) else none) else none) else none) else some (s, m)
/-- What the closure holds behind all tilts from one on. -/
def impl_eachTilt_CountTilts_1.lo : Nat → List Int → List Int → Int → Int → Int → Int → Int → Option (Int)
 | 0, _, _, _, _, _, _, _ => none
 | k + 1, l0, l1, m0, n, lim, code, s => if code < lim then ((impl_eachTilt_CountTilts_1.li k l0 l1 n code ([] : List Int) 0 0).bind fun p => (impl_CountTilts_1.f m0 p.1 p.2 s).bind fun s1 => impl_eachTilt_CountTilts_1.lo k l0 l1 m0 n lim (wrap64 (code + 1)) s1) else some s
def impl_eachTilt_CountTilts_1.f (k : Nat) (l0 l1 : List Int) (m0 : Int) (s : Int) : Option (Int) := impl_eachTilt_CountTilts_1.lo k l0 l1 m0 (l0.length : Int) (shl .i64 1 (l0.length : Int)) 0 s
theorem impl_eachTilt_CountTilts_1.mono_i : ∀ k l0 l1 n code s m i, LeO (impl_eachTilt_CountTilts_1.li k l0 l1 n code s m i) (impl_eachTilt_CountTilts_1.li (k + 1) l0 l1 n code s m i) := by
 intro k
 induction k with
 | zero => intro _ _ _ _ _ _ _ r h; simp [impl_eachTilt_CountTilts_1.li] at h
 | succ k ih =>
  intro l0 l1 n code s m i
  unfold impl_eachTilt_CountTilts_1.li
  repeat' first
   | (with_reducible exact ih _ _ _ _ _ _ _)
   | (with_reducible exact LeO.refl _)
   | (with_reducible exact LeO.none _)
   | (with_reducible refine LeO.ite ?_ ?_)
theorem impl_eachTilt_CountTilts_1.mono_o : ∀ k l0 l1 m0 n lim code s, LeO (impl_eachTilt_CountTilts_1.lo k l0 l1 m0 n lim code s) (impl_eachTilt_CountTilts_1.lo (k + 1) l0 l1 m0 n lim code s) := by
 intro k
 induction k with
 | zero => intro _ _ _ _ _ _ _ r h; simp [impl_eachTilt_CountTilts_1.lo] at h
 | succ k ih =>
  intro l0 l1 m0 n lim code s
  unfold impl_eachTilt_CountTilts_1.lo
  refine LeO.ite ?_ (LeO.refl _); refine LeO.bind (impl_eachTilt_CountTilts_1.mono_i k _ _ _ _ _ _ _) (fun _ => ?_); refine LeO.bind (LeO.refl _) (fun _ => ?_); exact ih _ _ _ _ _ _ _
theorem impl_eachTilt_CountTilts_1.mono : ∀ a0 a1 a2 a3 k, LeO (impl_eachTilt_CountTilts_1.f k a0 a1 a2 a3) (impl_eachTilt_CountTilts_1.f (k + 1) a0 a1 a2 a3) := fun _ _ _ _ k => impl_eachTilt_CountTilts_1.mono_o k _ _ _ _ _ _ _
set_option maxHeartbeats 8000000 in
set_option maxRecDepth 100000 in
theorem impl_eachTilt_CountTilts_1.calls (g1 g2 : Nat) (m0 : Int) (k : Nat) (A0 : Option Addr) (c0 : Nat) (l0 : List Int) (A1 : Option Addr) (c1 : Nat) (l1 : List Int) (s0 r : Int) (w0 w : World) (hr0 : Kd.C (Kd.int .i64) w0 A0 l0.length l0) (hc0 : l0.length ≤ c0) (hr1 : Kd.C (Kd.int .i64) w0 A1 l1.length l1) (hc1 : l1.length ≤ c1) (hJ : impl_CountTilts_1.J w0 g1 g2 m0 w s0) (h : impl_eachTilt_CountTilts_1.f k l0 l1 m0 s0 = some r) :
  Calls Try.prog 45 #[.slice A0 l0.length c0, .slice A1 l1.length c1, .func (.func 46) #[] #[.pointer (some ⟨g1, 0, none⟩), .pointer (some ⟨g2, 0, none⟩)]] w fun e w' => e = .returned (.tuple #[]) ∧ impl_CountTilts_1.J w0 g1 g2 m0 w' r := by
 have HR0 := Aside0.mk hr0; have HC0 := Aside0.mk hc0; clear hr0 hc0; have HR1 := Aside0.mk hr1; have HC1 := Aside0.mk hc1; clear hr1 hc1; have HJ := Aside0.mk hJ; clear hJ; have H : (impl_eachTilt_CountTilts_1.lo k l0 l1 m0 (l0.length : Int) (shl .i64 1 (l0.length : Int)) 0 s0) = some r := h; clear h; obtain ⟨ji3, hji3⟩ : ∃ j_ : Int, (shl .i64 1 (l0.length : Int)) = j_ := ⟨_, rfl⟩
 replace H : (impl_eachTilt_CountTilts_1.lo k l0 l1 m0 (l0.length : Int) ji3 0 s0) = some r := by first | (rw [hji3] at H; exact H) | (simp only [hji3] at H ⊢; exact H)
 have hji3_ : (IntKind.i64.wrap (1 * 2 ^ min (l0.length : Int).toNat 64)) = ji3 := hji3; have hji3z : (l0.length : Int) ≤ 64 → (IntKind.i64.wrap (1 * 2 ^ (l0.length : Int).toNat)) = ji3 := shl_small hji3; have hji3p : (IntKind.i64.wrap (1 * 2 ^ min l0.length 64)) = ji3 := hji3_; have hji3q : (l0.length : Int) ≤ 64 → (IntKind.i64.wrap (1 * 2 ^ l0.length)) = ji3 := hji3z
 have hji3r : (IntKind.i64.wrap (2 ^ min l0.length 64)) = ji3 := by have h_ := hji3p; rw [Int.one_mul] at h_; exact h_
 have hji3s : (l0.length : Int) ≤ 64 → (IntKind.i64.wrap (2 ^ l0.length)) = ji3 := fun hle_ => by have h_ := hji3q hle_; rw [Int.one_mul] at h_; exact h_
 have hji3u : (IntKind.i64.wrap (2 ^ min (l0.length : Int).toNat 64)) = ji3 := by have h_ := hji3_; rw [Int.one_mul] at h_; exact h_
 have hji3v : (l0.length : Int) ≤ 64 → (IntKind.i64.wrap (2 ^ (l0.length : Int).toNat)) = ji3 := fun hle_ => by have h_ := hji3z hle_; rw [Int.one_mul] at h_; exact h_
 have hji3y : (wrap64 (1 * 2 ^ min (l0.length : Int).toNat 64)) = ji3 := (i64_w _).symm.trans hji3_
 have hji3x : (l0.length : Int) ≤ 64 → (wrap64 (1 * 2 ^ (l0.length : Int).toNat)) = ji3 := fun h_ => (i64_w _).symm.trans (hji3z h_)
 have H' := Aside0.mk H; clear H
 go_enter Try.func45, Try.ntmps45
 go_wp2
 go_loopg [17] k (fun kq v17 w' => ∃ (x17_1 : Int) (xs_ : Int), v17 = .int .i64 x17_1 ∧ Aside0 (impl_eachTilt_CountTilts_1.lo kq l0 l1 m0 (l0.length : Int) ji3 x17_1 xs_ = some r) ∧ Aside0 (impl_CountTilts_1.J w0 g1 g2 m0 w' xs_))
 case atStart => exact ⟨(0), s0, (by first | rfl | (simp; done) | (simp [*]; done)), H', ⟨by repeat (first | (with_reducible first | exact HJ.out | apply impl_CountTilts_1.J_alloc | apply impl_CountTilts_1.J_drewN | apply impl_CountTilts_1.J_drew) | exact HJ.out)⟩⟩
 case round =>
  clear H' HJ; (try clear c1); (try clear p2); obtain ⟨x17_1, xs_, rfl, HA, HJ⟩ := hrel
  cases gk with
  | zero => exact absurd HA.out (by simp [impl_eachTilt_CountTilts_1.lo])
  | succ k1 =>
   have H := HA.out; clear HA; simp only [impl_eachTilt_CountTilts_1.lo] at H
   by_cases c4 : x17_1 < ji3
   ·rw [if_pos c4] at H
    have c4b0 : decide (x17_1 < ji3) = true := decide_eq_true c4; clear c4; obtain ⟨⟨ps, pm⟩, A50, H⟩ := Option.bind_eq_some_iff.mp H; obtain ⟨s1, A60, H⟩ := Option.bind_eq_some_iff.mp H; have HO := Aside0.mk H; clear H; replace A60 : impl_CountTilts_1.f m0 ps pm xs_ = some s1 := A60; have A6 := Aside0.mk A60; clear A60; obtain ⟨w1, e1⟩ : ∃ w1 : World, w1 = wr := ⟨_, rfl⟩; subst e1; have HR0 := Aside0.mk (Kd.C_below HR0.out (impl_CountTilts_1.J_base HJ.out)); have HR1 := Aside0.mk (Kd.C_below HR1.out (impl_CountTilts_1.J_base HJ.out)); have HB := Aside0.mk (Below.refl w1.heap.size w1); obtain ⟨y137, hy137⟩ : ∃ y_ : List Int, y_ = (([] : List Int)) := ⟨_, rfl⟩
    replace A50 : (impl_eachTilt_CountTilts_1.li k1 l0 l1 (l0.length : Int) x17_1 y137 0 0) = some (ps, pm) := by rw [hy137]; exact A50
    have Ny137 := Aside0.mk hy137; clear hy137; have H' := Aside0.mk A50; clear A50
    go_wp2_with (first | ((with_reducible refine gate_dst (N := 20) rfl ?_); refine Kd.R_lit (Kd.int .i64) _ 3 ?hg (N := 20) ?hd (xs := ([] : List Int)) (inner := []) (ok := fun _ => True) (okp := fun _ => True) ?hr ?hp (fun _ hk => hk) trivial (Below.refl _ _) (Nat.le_refl _) (by simp) ?_; (case hd => rfl); (case hg => rfl); (case hr => first | (go_simp; done) | (go_simp; rfl)); (case hp => exact (Reps.none _ _)); intro v138 w5 ho6 hb hg_ hnew_; clear hg_ hnew_; (first | rw [← Ny137.out] at ho6 | (simp only [Int.reduceToNat] at ho6; rw [← Ny137.out] at ho6)); have n0_ := Aside0.mk (Kd.R_lower ho6 (below_size (by repeat (first | (with_reducible first | exact HB.out | apply below_alloc | apply pw_below_drewN | apply below_drew1) | exact HB.out)))); have n1_ := Aside0.mk (below_step (by repeat (first | (with_reducible first | exact HB.out | apply below_alloc | apply pw_below_drewN | apply below_drew1) | exact HB.out)) hb); clear HB; have HO139 := n0_; have HB := n1_; clear n0_ n1_; clear hb ho6))
    (try simp only [Act.put, sA, sZ, sS])
    go_loopg [8, 9, 23] k1 (fun kq v8 v9 v23 w' => ∃ (x8_2 : List Int) (x9_2 : Int) (x23_2 : Int), v9 = .int .i64 x9_2 ∧ v23 = .int .i64 x23_2 ∧ Aside0 (impl_eachTilt_CountTilts_1.li kq l0 l1 (l0.length : Int) x17_1 x8_2 x9_2 x23_2 = some (ps, pm)) ∧ Aside0 (Kd.R (Kd.int .i64) 3 w' w1.heap.size (fun _ => True) v8 x8_2) ∧ Aside0 (Below w1.heap.size w1 w'))
    case atStart => exact ⟨(y137), (0), (0), (by first | rfl | (simp; done) | (simp [*]; done)), (by first | rfl | (simp; done) | (simp [*]; done)), H', ⟨by (with_reducible repeat (first | apply Kd.R_alloc | apply Kd.R_drewN | apply Kd.R_drew)); exact HO139.out⟩, ⟨by repeat (first | (with_reducible first | exact HB.out | apply below_alloc | apply pw_below_drewN | apply below_drew1) | exact HB.out | exact Below.refl _ _)⟩⟩
    case round =>
     clear H' HB HO139; (try clear c1); (try clear p2); (try clear c4); (try clear c4b0); (try clear p6); (try clear p2); obtain ⟨x8_2, x9_2, x23_2, rfl, rfl, HA, HO_8, HB⟩ := hrel
     cases gk with
     | zero => exact absurd HA.out (by simp [impl_eachTilt_CountTilts_1.li])
     | succ k2 =>
      have H := HA.out; clear HA; simp only [impl_eachTilt_CountTilts_1.li] at H
      by_cases c7 : x23_2 < (l0.length : Int)
      ·rw [if_pos c7] at H
       have c7b0 : decide (x23_2 < (l0.length : Int)) = true := decide_eq_true c7; clear c7
       by_cases c8 : 0 ≤ x23_2
       ·rw [if_pos c8] at H
        have c8b0 : decide (0 ≤ x23_2) = true := decide_eq_true c8; clear c8; obtain ⟨ji10, hji10⟩ : ∃ j_ : Int, (wrap64 ((wrap64 ((l0.length : Int) - 1)) - x23_2)) = j_ := ⟨_, rfl⟩; rw [hji10] at H; have hji10w : (IntKind.i64.wrap ((wrap64 ((l0.length : Int) - 1)) - x23_2)) = ji10 := (i64_w _).trans hji10
        by_cases c11 : 0 ≤ (ji10)
        ·rw [if_pos c11] at H
         have c11b0 := eq_true c11; have c11b1 : decide (0 ≤ (ji10)) = true := decide_eq_true c11; clear c11; obtain ⟨ji12, hji12⟩ : ∃ j_ : Int, (shr .i64 x17_1 (ji10)) = j_ := ⟨_, rfl⟩; rw [hji12] at H; have hji12_ : (x17_1 / 2 ^ min (ji10).toNat 64) = ji12 := hji12; have hji12z : (ji10) ≤ 64 → (x17_1 / 2 ^ (ji10).toNat) = ji12 := shr_small hji12
         by_cases c13 : x8_2.length < 17592186044416
         ·rw [if_pos c13] at H
          have LMc13 := Aside0.mk c13; clear c13; obtain ⟨y141, hy141⟩ : ∃ y_ : List Int, y_ = (x8_2 ++ [wrap64 ((wrap64 (2 * (Go.bits .and .i64 (ji12) 1))) - 1)]) := ⟨_, rfl⟩; rw [← hy141] at H; have Ny141 := Aside0.mk hy141; clear hy141
          by_cases c14 : x23_2 < (l1.length : Int)
          ·rw [if_pos c14] at H
           have c14b0 : decide (x23_2 < (l1.length : Int)) = true := decide_eq_true c14; clear c14; have H' := Aside0.mk H; clear H; have p140 : 0 ≤ (x23_2 : Int) := of_decide_eq_true (by first | (with_reducible assumption) | assumption); have q140 : x23_2 < (l0.length : Int) := of_decide_eq_true (by first | (with_reducible assumption) | assumption); obtain ⟨ad140, e140, hx140_0⟩ := Kd.at_int HR0.out x23_2 p140 q140; cases e140; replace hx140_0 := (HB.out.cell (World.block_lt_of_cell? w1 _ hx140_0)).trans hx140_0; replace p140 := eq_true p140; replace q140 := eq_true q140
           go_wp2_with (first | ((with_reducible refine gate_builtin (b := .append) (xs := #[.tmp 37, .tmp 39]) rfl ?_); at_builtin; refine Kd.R_append (Kd.int .i64) (w0 := w1) w1.heap.size rfl (.tmp 37) (.tmp 39) 22 3 (.int .i64 0) 8 rfl Try.underlying22 info3 rfl (by decide) (by omega) u8 x8_2 (wrap64 ((wrap64 (2 * (Go.bits .and .i64 (ji12) 1))) - 1)) [.int .i64 (wrap64 ((wrap64 (2 * (Go.bits .and .i64 (ji12) 1))) - 1))] (fun _ => True) (fun _ => False) rfl rfl ?aP (fun _ hk => hk.elim) ?aF ?aO ?aB ?aS ?aL ?_; (case aP => exact rfl); (case aB => exact (by repeat (first | (with_reducible first | exact HB.out | apply below_alloc | apply pw_below_drewN | apply below_drew1) | exact HB.out))); (case aF => exact (fun _ _ => trivial)); (case aO => exact (by (with_reducible repeat (first | apply Kd.R_alloc | apply Kd.R_drewN | apply Kd.R_drew)); exact HO_8.out)); (case aS => exact (below_size (by repeat (first | (with_reducible first | exact HB.out | apply below_alloc | apply pw_below_drewN | apply below_drew1) | exact HB.out)))); (case aL => have := LMc13.out; omega); intro v142 w15 ho hb hg hat; rw [← Ny141.out] at ho; have n0_ := Aside0.mk (hb); have n1_ := Aside0.mk (ho); clear HB; clear HO_8; have HB := n0_; have HO143 := n1_; clear n0_ n1_; clear ho hb hg hat; have p144 : 0 ≤ (x23_2 : Int) := of_decide_eq_true (by first | (with_reducible assumption) | assumption); have q144 : x23_2 < (l1.length : Int) := of_decide_eq_true (by first | (with_reducible assumption) | assumption); obtain ⟨ad144, e144, hx144_0⟩ := Kd.at_int HR1.out x23_2 p144 q144; cases e144; replace hx144_0 := (HB.out.cell (World.block_lt_of_cell? w1 _ hx144_0)).trans hx144_0; replace p144 := eq_true p144; replace q144 := eq_true q144))
           go_roundg k2
           case measure => omega
           case rel => exact ⟨(y141), _, (wrap64 (x23_2 + 1)), (by first | rfl | (simp; done) | (simp [*]; done)), (by first | rfl | (simp; done) | (simp [*]; done)), H', ⟨by (with_reducible repeat (first | apply Kd.R_alloc | apply Kd.R_drewN | apply Kd.R_drew)); exact HO143.out⟩, ⟨by repeat (first | (with_reducible first | exact HB.out | apply below_alloc | apply pw_below_drewN | apply below_drew1) | exact HB.out)⟩⟩
          ·rw [if_neg c14] at H
           exact absurd H (by simp)
         ·rw [if_neg c13] at H
          exact absurd H (by simp)
        ·rw [if_neg c11] at H
         exact absurd H (by simp)
       ·rw [if_neg c8] at H
        exact absurd H (by simp)
      ·rw [if_neg c7] at H
       have c7b0 : decide (x23_2 < (l0.length : Int)) = false := decide_eq_false c7; clear c7; simp only [Option.some.injEq, Prod.mk.injEq] at H; obtain ⟨e8, e9⟩ := H; subst e8; subst e9
       go_wp2_with (first | (go_at_call 46; refine (impl_CountTilts_1.calls g1 g2 m0 u8 x8_2 x9_2 xs_ s1 w0 w1 _ HJ.out (by repeat (first | (with_reducible first | exact HB.out | apply below_alloc | apply pw_below_drewN | apply below_drew1) | exact HB.out)) (by (with_reducible repeat (first | apply Kd.R_alloc | apply Kd.R_drewN | apply Kd.R_drew)); exact HO_8.out) A6.out).mono ?_; rintro e w19 ⟨rfl, hj⟩; have HJ2 := Aside0.mk hj; clear hj))
       go_roundg k1
       case measure => omega
       case rel => exact ⟨(wrap64 (x17_1 + 1)), s1, (by first | rfl | (simp; done) | (simp [*]; done)), HO, ⟨by repeat (first | (with_reducible first | exact HJ2.out | apply impl_CountTilts_1.J_alloc | apply impl_CountTilts_1.J_drewN | apply impl_CountTilts_1.J_drew) | exact HJ2.out)⟩⟩
   ·rw [if_neg c4] at H
    have c4b0 : decide (x17_1 < ji3) = false := decide_eq_false c4; clear c4; have hs := Option.some.inj H; subst hs; go_wp2
    first | go_end0 | ((try simp only [Exit.inBlock, Exit.then]); refine bodyPost_ret (results_none rfl _ _ _) rfl ?_)
    exact ⟨by first | rfl | (simp [errW_none, errW_some] <;> rfl), by repeat (first | (with_reducible first | exact HJ.out | apply impl_CountTilts_1.J_alloc | apply impl_CountTilts_1.J_drewN | apply impl_CountTilts_1.J_drew) | exact HJ.out)⟩

/-! ### impl_CountTilts: function 11, by hand -/
-- needs 43 44 45
def impl_CountTilts.f (k : Nat) (l0 l1 : List Int) (a2 : Int) : Option (Int × Bool) :=
 (impl_areArms.f k l0 l1).bind fun t => if t = true then ((impl_within.f a2 (-10000) 10000).bind fun u => if u = true then ((impl_eachTilt_CountTilts_1.f k l0 l1 a2 0).bind fun s => some (s, true)) else some (0, false)) else some (0, false)
theorem impl_CountTilts.mono : ∀ a0 a1 a2 k, LeO (impl_CountTilts.f k a0 a1 a2) (impl_CountTilts.f (k + 1) a0 a1 a2) := by
 intro a0 a1 a2 k
 unfold impl_CountTilts.f
 refine LeO.bind (impl_areArms.mono _ _ _) (fun _ => ?_); refine LeO.ite ?_ (LeO.refl _); refine LeO.bind (LeO.refl _) (fun _ => ?_); refine LeO.ite ?_ (LeO.refl _); exact LeO.bind (impl_eachTilt_CountTilts_1.mono _ _ _ _ _) (fun _ => LeO.refl _)
set_option maxHeartbeats 8000000 in
set_option maxRecDepth 100000 in
theorem impl_CountTilts.calls (k : Nat) (A0 : Option Addr) (c0 : Nat) (l0 : List Int) (A1 : Option Addr) (c1 : Nat) (l1 : List Int) (a2 : Int) (r1 : Int) (r2 : Bool) (w : World) (hr0 : Kd.C (Kd.int .i64) w A0 l0.length l0) (hc0 : l0.length ≤ c0) (hr1 : Kd.C (Kd.int .i64) w A1 l1.length l1) (hc1 : l1.length ≤ c1) (h : impl_CountTilts.f k l0 l1 a2 = some (r1, r2)) :
  Calls Try.prog 11 #[.slice A0 l0.length c0, .slice A1 l1.length c1, .int .i64 a2] w fun e w' => e = .returned (.tuple #[.int .i64 r1, .bool r2]) ∧ Below w.heap.size w w' := by
 have HR0 := Aside0.mk hr0; have HC0 := Aside0.mk hc0; have HR1 := Aside0.mk hr1; have HC1 := Aside0.mk hc1; clear hr0 hc0 hr1 hc1; have HB := Aside0.mk (Below.refl w.heap.size w); obtain ⟨t, A1_, H⟩ := Option.bind_eq_some_iff.mp h; clear h; have Q1 := Aside0.mk A1_; clear A1_
 cases t with
 | false =>
  have H' := Aside0.mk H; clear H
  go_enter Try.func11, Try.ntmps11
  go_wp2_with (first | ((with_reducible refine gate_dst (N := 5) rfl ?_); refine box_event ?hg (N := 5) ?hd (cs := #[.int .i64 a2]) (t := 3) ?hr ?_; (case hd => rfl); (case hg => rfl); (case hr => first | (go_simp; done) | (go_simp; rfl)); intro g5_ hg w5 hbox hb; have n0_ := Aside0.mk (below_step (by repeat (first | (with_reducible first | exact HB.out | apply below_alloc | apply pw_below_drewN | apply below_drew1) | exact HB.out)) hb); have B5 := Aside0.mk hbox; have cz5 : w5.cell? ⟨g5_, 0, none⟩ = some (.int .i64 a2) := (blk_cell hbox 0).trans rfl; have GE5 := Aside0.mk ((by rw [hg]; exact (below_size (by repeat (first | (with_reducible first | exact HB.out | apply below_alloc | apply pw_below_drewN | apply below_drew1) | exact HB.out)))) : w.heap.size ≤ g5_); clear HB; have HB := n0_; clear n0_ hb hbox hg) | (go_at_call 43; refine (impl_areArms.calls k A0 c0 l0 A1 c1 l1 false _ (Kd.C_below HR0.out (by repeat (first | (with_reducible first | exact HB.out | apply below_alloc | apply pw_below_drewN | apply below_drew1) | exact HB.out))) HC0.out (Kd.C_below HR1.out (by repeat (first | (with_reducible first | exact HB.out | apply below_alloc | apply pw_below_drewN | apply below_drew1) | exact HB.out))) HC1.out Q1.out).mono ?_; rintro e w11 ⟨rfl, ⟨nd, rfl⟩⟩))
  go_ret2
  obtain ⟨rfl, rfl⟩ : (0 : Int) = r1 ∧ false = r2 := by have := H'.out; simpa using this
  exact ⟨by first | rfl | (simp <;> rfl), by repeat (first | (with_reducible first | exact HB.out | apply below_alloc | apply pw_below_drewN | apply below_drew1) | exact HB.out)⟩
 | true =>
  obtain ⟨u, A2_, H2⟩ := Option.bind_eq_some_iff.mp (show ((impl_within.f a2 (-10000) 10000).bind fun u => if u = true then ((impl_eachTilt_CountTilts_1.f k l0 l1 a2 0).bind fun s => some (s, true)) else some (0, false)) = some (r1, r2) from H); clear H; have Q2 := Aside0.mk A2_; clear A2_
  cases u with
  | false =>
   have H' := Aside0.mk H2; clear H2
   go_enter Try.func11, Try.ntmps11
   go_wp2_with (first | ((with_reducible refine gate_dst (N := 5) rfl ?_); refine box_event ?hg (N := 5) ?hd (cs := #[.int .i64 a2]) (t := 3) ?hr ?_; (case hd => rfl); (case hg => rfl); (case hr => first | (go_simp; done) | (go_simp; rfl)); intro g5_ hg w5 hbox hb; have n0_ := Aside0.mk (below_step (by repeat (first | (with_reducible first | exact HB.out | apply below_alloc | apply pw_below_drewN | apply below_drew1) | exact HB.out)) hb); have B5 := Aside0.mk hbox; have cz5 : w5.cell? ⟨g5_, 0, none⟩ = some (.int .i64 a2) := (blk_cell hbox 0).trans rfl; have GE5 := Aside0.mk ((by rw [hg]; exact (below_size (by repeat (first | (with_reducible first | exact HB.out | apply below_alloc | apply pw_below_drewN | apply below_drew1) | exact HB.out)))) : w.heap.size ≤ g5_); clear HB; have HB := n0_; clear n0_ hb hbox hg) | (go_at_call 43; refine (impl_areArms.calls k A0 c0 l0 A1 c1 l1 true _ (Kd.C_below HR0.out (by repeat (first | (with_reducible first | exact HB.out | apply below_alloc | apply pw_below_drewN | apply below_drew1) | exact HB.out))) HC0.out (Kd.C_below HR1.out (by repeat (first | (with_reducible first | exact HB.out | apply below_alloc | apply pw_below_drewN | apply below_drew1) | exact HB.out))) HC1.out Q1.out).mono ?_; rintro e w11 ⟨rfl, ⟨nd, rfl⟩⟩) | (go_at_call 44; refine (impl_within.calls a2 (-10000) 10000 false _ Q2.out).mono ?_; rintro e w15 ⟨rfl, ⟨nd, rfl⟩⟩))
   go_ret2
   obtain ⟨rfl, rfl⟩ : (0 : Int) = r1 ∧ false = r2 := by have := H'.out; simpa using this
   exact ⟨by first | rfl | (simp <;> rfl), by repeat (first | (with_reducible first | exact HB.out | apply below_alloc | apply pw_below_drewN | apply below_drew1) | exact HB.out)⟩
  | true =>
   obtain ⟨s, A3_, H3⟩ := Option.bind_eq_some_iff.mp (show ((impl_eachTilt_CountTilts_1.f k l0 l1 a2 0).bind fun s => some (s, true)) = some (r1, r2) from H2); clear H2; have Q3 := Aside0.mk A3_; clear A3_
   obtain ⟨rfl, rfl⟩ : s = r1 ∧ true = r2 := by simpa using H3
   clear H3
   go_enter Try.func11, Try.ntmps11
   go_wp2_with (first | ((with_reducible refine gate_dst (N := 5) rfl ?_); refine box_event ?hg (N := 5) ?hd (cs := #[.int .i64 a2]) (t := 3) ?hr ?_; (case hd => rfl); (case hg => rfl); (case hr => first | (go_simp; done) | (go_simp; rfl)); intro g5_ hg w5 hbox hb; have n0_ := Aside0.mk (below_step (by repeat (first | (with_reducible first | exact HB.out | apply below_alloc | apply pw_below_drewN | apply below_drew1) | exact HB.out)) hb); have B5 := Aside0.mk hbox; have cz5 : w5.cell? ⟨g5_, 0, none⟩ = some (.int .i64 a2) := (blk_cell hbox 0).trans rfl; have GE5 := Aside0.mk ((by rw [hg]; exact (below_size (by repeat (first | (with_reducible first | exact HB.out | apply below_alloc | apply pw_below_drewN | apply below_drew1) | exact HB.out)))) : w.heap.size ≤ g5_); clear HB; have HB := n0_; clear n0_ hb hbox hg) | (go_at_call 43; refine (impl_areArms.calls k A0 c0 l0 A1 c1 l1 true _ (Kd.C_below HR0.out (by repeat (first | (with_reducible first | exact HB.out | apply below_alloc | apply pw_below_drewN | apply below_drew1) | exact HB.out))) HC0.out (Kd.C_below HR1.out (by repeat (first | (with_reducible first | exact HB.out | apply below_alloc | apply pw_below_drewN | apply below_drew1) | exact HB.out))) HC1.out Q1.out).mono ?_; rintro e w11 ⟨rfl, ⟨nd, rfl⟩⟩) | (go_at_call 44; refine (impl_within.calls a2 (-10000) 10000 true _ Q2.out).mono ?_; rintro e w15 ⟨rfl, ⟨nd, rfl⟩⟩) | ((with_reducible refine gate_dst (N := 8) rfl ?_); refine box_event ?hg (N := 8) ?hd (cs := #[.int .i64 0]) (t := 3) ?hr ?_; (case hd => rfl); (case hg => rfl); (case hr => first | (go_simp; done) | (go_simp; rfl)); intro g8_ hg w8 hbox hb; have n0_ := Aside0.mk (below_step (by repeat (first | (with_reducible first | exact HB.out | apply below_alloc | apply pw_below_drewN | apply below_drew1) | exact HB.out)) hb); have B8 := Aside0.mk hbox; have GE8 := Aside0.mk ((by rw [hg]; exact (below_size (by repeat (first | (with_reducible first | exact HB.out | apply below_alloc | apply pw_below_drewN | apply below_drew1) | exact HB.out)))) : w.heap.size ≤ g8_); have NE58 := Aside0.mk (show g5_ ≠ g8_ from by rw [hg]; exact Nat.ne_of_lt (blk_lt (by (with_reducible repeat (first | refine blk_drewN ?_ _ | refine blk_drew ?_ | refine blk_alloc ?_ _)); exact B5.out))); have n5_ := Aside0.mk (blk_below (by (with_reducible repeat (first | refine blk_drewN ?_ _ | refine blk_drew ?_ | refine blk_alloc ?_ _)); exact B5.out) hb); clear B5; have B5 := n5_; clear n5_; have cz8 : w8.cell? ⟨g8_, 0, none⟩ = some (.int .i64 0) := (blk_cell B8.out 0).trans rfl; have fz8 := blk_frozen B8.out 0; clear HB; have HB := n0_; clear n0_ hb hbox hg) | (go_at_call 45; refine (impl_eachTilt_CountTilts_1.calls g5_ g8_ a2 k A0 c0 l0 A1 c1 l1 0 s w _ HR0.out HC0.out HR1.out HC1.out (show impl_CountTilts_1.J w g5_ g8_ a2 _ 0 from ⟨by repeat (first | (with_reducible first | exact HB.out | apply below_alloc | apply pw_below_drewN | apply below_drew1 | refine below_set ?_ GE8.out) | exact HB.out), (by (with_reducible repeat (first | refine blk_drewN ?_ _ | refine blk_drew ?_ | refine blk_alloc ?_ _ | refine blk_far ?_ NE58.out _)); exact B5.out), (by (with_reducible repeat (first | refine blk_drewN ?_ _ | refine blk_drew ?_ | refine blk_alloc ?_ _)); refine blk_put (cs := #[.int .i64 0]) ?_ 0 _ rfl; (with_reducible repeat (first | refine blk_drewN ?_ _ | refine blk_drew ?_ | refine blk_alloc ?_ _)); exact B8.out), NE58.out, GE8.out⟩) Q3.out).mono ?_; rintro e w19 ⟨rfl, hj⟩; have HJ2 := Aside0.mk hj; have cj2 : w19.cell? ⟨g8_, 0, none⟩ = some (.int .i64 s) := (blk_cell hj.2.2.1 0).trans rfl; clear hj; clear HB; have HB := Aside0.mk (impl_CountTilts_1.J_base HJ2.out)))
   go_ret2
   exact ⟨by first | rfl | (simp <;> rfl), by repeat (first | (with_reducible first | exact HB.out | apply below_alloc | apply pw_below_drewN | apply below_drew1) | exact HB.out)⟩

end Go.Proofs.Ytkedfmmmjopofaa.XTi
