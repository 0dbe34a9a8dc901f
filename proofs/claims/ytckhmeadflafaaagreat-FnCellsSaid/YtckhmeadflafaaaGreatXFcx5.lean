/- Functions of the program as plain Lean functions, each with the proof that the machine's call does what it says: written by a program of this session out of the translation. -/
import Derived.Test.YtckhmeadflafaaaGreatXFcx0
import Derived.Test.YtckhmeadflafaaaGreatXFcx2
import Derived.Test.YtckhmeadflafaaaGreatXFcx4
import Derived.Deep.RegionLaw
import Derived.Lib.SliceRun
import Derived.Lib.Hide
import Derived.Test.YtckhmeadflafaaaGreatXFcx1
namespace Go.Proofs.YtckhmeadflafaaaGreat.XFc
open Go.RowKit Go.Proofs.YtckhmeadflafaaaGreatW.PrintWords Go.Proofs.YtckhmeadflafaaaGreatW.PrintLast Go.Proofs.YtckhmeadflafaaaGreatW.PrintMore
attribute [local go_sem] max2_int min2_int max_two min_two max_three min_three max_four min_four   -- for this text's walks alone
set_option linter.unusedVariables false
set_option linter.unusedSimpArgs false
set_option maxHeartbeats 8000000
set_option maxRecDepth 100000
/-! ### spec_l8Without: function 57 -/
def spec_l8Without.f (k : Nat) (l0 : List (S37)) (a1 : Int) : Option ((List (S37)) × Bool) := (some (([] : List (S37)) : List (S37))).bind fun y345 => (if 0 ≤ a1 then (if a1 ≤ (l0.length : Int) then ((some (l0.take (a1 : Int).toNat : List (S37))).bind fun y348 => (if y345.length + y348.length < 8796093022208 then ((some (y345 ++ y348 : List (S37))).bind fun y352 => (if 0 ≤ (wrap64 (a1 + 1)) then (if (wrap64 (a1 + 1)) ≤ (l0.length : Int) then ((some (l0.drop ((wrap64 (a1 + 1)) : Int).toNat : List (S37))).bind fun y355 => (if y352.length + y355.length < 8796093022208 then ((some (y352 ++ y355 : List (S37))).bind fun y359 => (if (y359.length : Int) = 0 then (some ((([] : List (S37))), false)) else ((spec_l8Hangs.f k y359).bind fun t365 => (if t365 = true then ((spec_l8Down.f k y359).bind fun t366 => (some (t366, true))) else (some ((([] : List (S37))), false)))))) else (none))) else (none)) else (none))) else (none))) else (none)) else (none))
def spec_l8Without.T1 : Bool × List (List Nat × List Nat) := (true, [([], []), ([], []), ([], []), ([1, 2], [1, 2]), ([0, 3], [0, 3]), ([], []), ([], []), ([6], [6]), ([5, 7], [5, 7]), ([4, 8, 4], [4, 8]), ([9, 9, 0, 1, 2, 3, 4, 5, 6, 7, 8, 9], [9])])
def spec_l8Without.B1 : List Nat := [0, 0, 0, 6, 15, 0, 0, 64, 224, 511, 1023]
theorem spec_l8Without.tab1 : rtab .any (opsOf Tryz.f57 1) = spec_l8Without.T1 := by kernel_rfl
theorem spec_l8Without.bits1 : waitsOk spec_l8Without.T1.2 spec_l8Without.B1 = true := by kernel_rfl
theorem spec_l8Without.calls (k : Nat) (A0 : Option Addr) (c0 : Nat) (l0 : List (S37)) (a1 : Int) (r1 : List (S37)) (r2 : Bool) (w : World) (hr0 : Kd.C k37 w A0 l0.length l0) (hc0 : l0.length ≤ c0) (h : spec_l8Without.f k l0 a1 = some (r1, r2)) :
  Calls Tryz.prog 57 #[.slice A0 l0.length c0, .int .i64 a1] w fun e w' => ∃ v0_ : Value, e = .returned (.tuple #[v0_, .bool r2]) ∧ Kd.R k37 37 w' w.heap.size (fun _ => True) v0_ r1 ∧ Below w.heap.size w w' := by
 have HR0 := ak hr0; have HC0 := ak hc0; clear hr0 hc0; have HB := ak (Below.refl w.heap.size w); have H := h; clear h
 unfold spec_l8Without.f at H
 obtain ⟨y345, hy345⟩ : ∃ y_ : List (S37), y_ = (([] : List (S37))) := ⟨_, rfl⟩
 replace H : (if 0 ≤ a1 then (if a1 ≤ (l0.length : Int) then ((some (l0.take (a1 : Int).toNat : List (S37))).bind fun y348 => (if y345.length + y348.length < 8796093022208 then ((some (y345 ++ y348 : List (S37))).bind fun y352 => (if 0 ≤ (wrap64 (a1 + 1)) then (if (wrap64 (a1 + 1)) ≤ (l0.length : Int) then ((some (l0.drop ((wrap64 (a1 + 1)) : Int).toNat : List (S37))).bind fun y355 => (if y352.length + y355.length < 8796093022208 then ((some (y352 ++ y355 : List (S37))).bind fun y359 => (if (y359.length : Int) = 0 then (some ((([] : List (S37))), false)) else ((spec_l8Hangs.f k y359).bind fun t365 => (if t365 = true then ((spec_l8Down.f k y359).bind fun t366 => (some (t366, true))) else (some ((([] : List (S37))), false)))))) else (none))) else (none)) else (none))) else (none))) else (none)) else (none)) = some (r1, r2) := by first | (rw [hy345]; with_reducible exact H) | (have H2_ := (Option.bind_some _ _).symm.trans H; rw [hy345]; with_reducible exact H2_) | (have H2_ := (Option.bind_some _ _).symm.trans H; with_reducible exact H2_) | with_reducible exact H | (rw [hy345]; exact H) | exact H
 have Ny345 := ak hy345; clear hy345
 revert H; refine ig_ fun c3 H => ?_
 have c3b0 := eq_true c3; have c3b1 := decide_eq_true c3; clear c3
 revert H; refine ig_ fun c4 H => ?_
 have c4b0 := eq_true c4; have c4b1 := decide_eq_true c4; clear c4; obtain ⟨y348, hy348⟩ : ∃ y_ : List (S37), y_ = (l0.take (a1 : Int).toNat) := ⟨_, rfl⟩
 replace H : (if y345.length + y348.length < 8796093022208 then ((some (y345 ++ y348 : List (S37))).bind fun y352 => (if 0 ≤ (wrap64 (a1 + 1)) then (if (wrap64 (a1 + 1)) ≤ (l0.length : Int) then ((some (l0.drop ((wrap64 (a1 + 1)) : Int).toNat : List (S37))).bind fun y355 => (if y352.length + y355.length < 8796093022208 then ((some (y352 ++ y355 : List (S37))).bind fun y359 => (if (y359.length : Int) = 0 then (some ((([] : List (S37))), false)) else ((spec_l8Hangs.f k y359).bind fun t365 => (if t365 = true then ((spec_l8Down.f k y359).bind fun t366 => (some (t366, true))) else (some ((([] : List (S37))), false)))))) else (none))) else (none)) else (none))) else (none)) = some (r1, r2) := by first | (rw [hy348]; with_reducible exact H) | (have H2_ := (Option.bind_some _ _).symm.trans H; rw [hy348]; with_reducible exact H2_) | (have H2_ := (Option.bind_some _ _).symm.trans H; with_reducible exact H2_) | with_reducible exact H | (rw [hy348]; exact H) | exact H
 have Ny348 := ak hy348; clear hy348
 revert H; refine ig_ fun c5 H => ?_
 have LMc5 := ak c5; clear c5; obtain ⟨y352, hy352⟩ : ∃ y_ : List (S37), y_ = (y345 ++ y348) := ⟨_, rfl⟩
 replace H : (if 0 ≤ (wrap64 (a1 + 1)) then (if (wrap64 (a1 + 1)) ≤ (l0.length : Int) then ((some (l0.drop ((wrap64 (a1 + 1)) : Int).toNat : List (S37))).bind fun y355 => (if y352.length + y355.length < 8796093022208 then ((some (y352 ++ y355 : List (S37))).bind fun y359 => (if (y359.length : Int) = 0 then (some ((([] : List (S37))), false)) else ((spec_l8Hangs.f k y359).bind fun t365 => (if t365 = true then ((spec_l8Down.f k y359).bind fun t366 => (some (t366, true))) else (some ((([] : List (S37))), false)))))) else (none))) else (none)) else (none)) = some (r1, r2) := by first | (rw [hy352]; with_reducible exact H) | (have H2_ := (Option.bind_some _ _).symm.trans H; rw [hy352]; with_reducible exact H2_) | (have H2_ := (Option.bind_some _ _).symm.trans H; with_reducible exact H2_) | with_reducible exact H | (rw [hy352]; exact H) | exact H
 have Ny352 := ak hy352; clear hy352; obtain ⟨ji6, hji6⟩ : ∃ j_ : Int, (wrap64 (a1 + 1)) = j_ := ⟨_, rfl⟩
 (rw [hji6] at H)
 have hji6w : (IntKind.i64.wrap (a1 + 1)) = ji6 := (i64_w _).trans hji6
 revert H; refine ig_ fun c7 H => ?_
 have c7b0 := eq_true c7; have c7b1 := decide_eq_true c7; clear c7
 revert H; refine ig_ fun c8 H => ?_
 have c8b0 := eq_true c8; have c8b1 := decide_eq_true c8; clear c8; obtain ⟨y355, hy355⟩ : ∃ y_ : List (S37), y_ = (l0.drop ((ji6) : Int).toNat) := ⟨_, rfl⟩
 replace H : (if y352.length + y355.length < 8796093022208 then ((some (y352 ++ y355 : List (S37))).bind fun y359 => (if (y359.length : Int) = 0 then (some ((([] : List (S37))), false)) else ((spec_l8Hangs.f k y359).bind fun t365 => (if t365 = true then ((spec_l8Down.f k y359).bind fun t366 => (some (t366, true))) else (some ((([] : List (S37))), false)))))) else (none)) = some (r1, r2) := by first | (rw [hy355]; with_reducible exact H) | (have H2_ := (Option.bind_some _ _).symm.trans H; rw [hy355]; with_reducible exact H2_) | (have H2_ := (Option.bind_some _ _).symm.trans H; with_reducible exact H2_) | with_reducible exact H | (rw [hy355]; exact H) | exact H
 have Ny355 := ak hy355; clear hy355
 revert H; refine ig_ fun c9 H => ?_
 have LMc9 := ak c9; clear c9; obtain ⟨y359, hy359⟩ : ∃ y_ : List (S37), y_ = (y352 ++ y355) := ⟨_, rfl⟩
 replace H : (if (y359.length : Int) = 0 then (some ((([] : List (S37))), false)) else ((spec_l8Hangs.f k y359).bind fun t365 => (if t365 = true then ((spec_l8Down.f k y359).bind fun t366 => (some (t366, true))) else (some ((([] : List (S37))), false))))) = some (r1, r2) := by first | (rw [hy359]; with_reducible exact H) | (have H2_ := (Option.bind_some _ _).symm.trans H; rw [hy359]; with_reducible exact H2_) | (have H2_ := (Option.bind_some _ _).symm.trans H; with_reducible exact H2_) | with_reducible exact H | (rw [hy359]; exact H) | exact H
 have Ny359 := ak hy359; clear hy359
 by_cases c10 : (y359.length : Int) = 0
 ·rw [if_pos c10] at H
  have c10b0 : ((y359.length : Int) == 0) = true := beq_iff_eq.mpr c10; have c10b1 : ((y359.length : Int) != 0) = false := bne_eq_false_iff_eq.mpr c10; clear c10; obtain ⟨y362, hy362⟩ : ∃ y_ : List (S37), y_ = (([] : List (S37))) := ⟨_, rfl⟩
  replace H : (some (y362, false)) = some (r1, r2) := by first | (rw [hy362]; with_reducible exact H) | (have H2_ := (Option.bind_some _ _).symm.trans H; rw [hy362]; with_reducible exact H2_) | (have H2_ := (Option.bind_some _ _).symm.trans H; with_reducible exact H2_) | with_reducible exact H | (rw [hy362]; exact H) | exact H
  have Ny362 := ak hy362; clear hy362; simp only [Option.some.injEq, Prod.mk.injEq] at H; obtain ⟨rfl, rfl⟩ := H
  go_enter Tryz.func57, Tryz.ntmps57
  (try go_wp2); have n0_ := ak (below_drew1 HB.out); clear HB; have HB := n0_; clear n0_; have q12 : (a1 : Int) ≤ ((l0.length : Int) : Int) := dq; obtain ⟨i012, hi012, _, hsz12, _⟩ := info_parts info37; have hroom12 : l0.length ≤ c0 := HC0.out; have hC12 : Kd.C k37 _ A0 l0.length l0 := HR0.out; have hcut12 := cut_to (P := Tryz.prog) 24 37 .i64 Tryz.underlying24 hi012 A0 l0.length c0 a1 (dq) q12 hroom12; have hr12 := Kd.C_take (m := (a1 : Int).toNat) hC12 (by omega); have hy12 : y348.length = (a1 : Int).toNat := (by rw [Ny348.out, List.length_take]; omega); rw [← Ny348.out] at hr12; rw [← hy12] at hcut12; have HR351 := ak hr12; have HC351 := ak (show y348.length ≤ c0 from by omega); clear hr12 hC12 hroom12 hi012 hsz12; have KY12 := ak hy12; clear hy12; replace q12 := eq_true q12; have q13 : ((ji6) : Int) ≤ ((l0.length : Int) : Int) := dq; obtain ⟨i013, hi013, _, hsz13, _⟩ := info_parts info37; have hroom13 : l0.length ≤ c0 := HC0.out; have hC13 : Kd.C k37 _ A0 l0.length l0 := HR0.out; have q013 : (0 : Int) ≤ ((ji6) : Int) := dq; have hcut13 := cut_from (P := Tryz.prog) 24 37 .i64 Tryz.underlying24 hi013 2 hsz13 A0 l0.length c0 (ji6) q013 q13; have hr13 := Kd.C_drop (m := ((ji6) : Int).toNat) (c := c0) hC13 (by omega) hroom13; obtain ⟨A13, hA13⟩ : ∃ A1, A1 = (if c0 = ((ji6) : Int).toNat then A0 else (A0 : Option Addr).map (·.add (((ji6) : Int).toNat * 2))) := ⟨_, rfl⟩; obtain ⟨c13, hc13⟩ : ∃ c1, c1 = c0 - ((ji6) : Int).toNat := ⟨_, rfl⟩; have hy13 : y355.length = l0.length - ((ji6) : Int).toNat := (by rw [Ny355.out, List.length_drop] <;> omega); rw [show (l0).drop ((ji6) : Int).toNat = y355 from Ny355.out.symm] at hr13; replace hr13 : Kd.C k37 _ A13 y355.length y355 := (by rw [hA13]; exact hr13); rw [← hy13, ← hA13, ← hc13] at hcut13; have HR358 := ak hr13; have HC358 := ak (show y355.length ≤ c13 from by rw [hy13, hc13]; exact Nat.sub_le_sub_right hroom13 _); clear hr13 hC13 hroom13 hi013 hsz13 hc13; have KY13 := ak hy13; have KA13 := ak hA13; clear hy13 hA13; replace q13 := eq_true q13; refine start_ (n := 11) (S := fun w' => True) (ds := []) #[Z,Z,Z,Z,Z,Z,Z,Z,Z,Z,Z] (by kernel_rfl) rfl rfl trivial (fun hHeld => ?_); refine with_tabW spec_l8Without.tab1 spec_l8Without.bits1 (fun HT_ HW_ => ?_)
  generalize w.drew = w11 at HB HR351 HR358 hHeld ⊢
  refine pq_ (i := 1) (N := some 8) #[Z,Y,Z,Z,Z,Z,Z,Z,Z,Z,Z] HT_ ?_; refine pq_ (i := 2) (N := some 9) #[Z,Y,Y,Z,Z,Z,Z,Z,Z,Z,Z] HT_ ?_; refine pq_ (i := 3) (N := some 10) #[Z,Y,Y,Y,Z,Z,Z,Z,Z,Z,Z] HT_ ?_; refine pq_ (i := 5) (N := some 12) #[Z,Y,Y,Y,Z,Y,Z,Z,Z,Z,Z] HT_ ?_; refine pq_ (i := 6) (N := some 13) #[Z,Y,Y,Y,Z,Y,Y,Z,Z,Z,Z] HT_ ?_; refine pq_ (i := 7) (N := some 14) #[Z,Y,Y,Y,Z,Y,Y,Y,Z,Z,Z] HT_ ?_; refine pq_ (i := 8) (N := some 15) #[Z,Y,Y,Y,Z,Y,Y,Y,Y,Z,Z] HT_ ?_; refine one_ (i := 0) (N := some 7) #[Y,Y,Y,Y,Z,Y,Y,Y,Y,Z,Z] rfl rfl (one_of HT_.out (by kernel_rfl)) (by decide) (fun K hK => ?_); refine Kd.R_lit_step k37 _ 37 ?hg (N := 7) ?hd (xs := ([] : List (S37))) (inner := []) (ok := fun _ => True) (okp := fun _ => True) ?hr ?hp (fun _ hk => hk) trivial (Below.refl _ _) (Nat.le_refl _) (by simp) ?_; (case hd => rfl); (case hg => rfl); (case hr => (go_simp; done)); (case hp => exact (Reps.none _ _)); intro v346 w14 ho15 hb hg_ hnew_; clear hg_ hnew_
  (rw [← Ny345.out] at ho15)
  have n0_ := ak (Kd.R_lower ho15 (below_size bq)); have n1_ := ak (below_step bq hb); clear HB; have HO347 := n0_; have HB := n1_; clear n0_ n1_; clear hb ho15; refine hK.out _ _ trivial (fun hHeld => ?_); clear hK K; refine norm_ (a' := ?_) ?_ ?_; rotate_left
  ·show Act.put _ (some 7) _ = _
   simp only [Act.put, sA, sZ, sS, i64_w, i32_w]
   rfl
  refine one_ (i := 4) (N := some 11) #[Y,Y,Y,Y,Y,Y,Y,Y,Y,Z,Z] rfl rfl (one_of HT_.out (by kernel_rfl)) (by decide) (fun K hK => ?_); refine Kd.R_append_rows_step k37 (w0 := w) w.heap.size (by rfl) (.tmp 7) (.tmp 10) 24 37 (.agg #[(.int .i64 0), (.int .i64 0)]) 16 rfl Tryz.underlying24 info37 rfl (by decide) (by omega) v346 y345 y348 _ _ _ (fun _ => True) (fun _ => False) rfl rfl ?aO ?aR (fun _ _ h => h) (fun _ h => h.elim) ?aF ?aB ?aS ?aL ?_
  (case aR => exact cq (Kd.C_below HR351.out HB.out))
  (case aB => exact bq)
  (case aF => exact (fun _ _ => trivial))
  (case aO => exact (rq HO347))
  (case aS => exact (below_size bq))
  (case aL => have := LMc5.out; omega)
  intro v353 w16 ho hb hg hat; rw [← Ny352.out] at ho; have n0_ := ak (hb); have n1_ := ak (ho); clear HB; clear HO347; have HB := n0_; have HO354 := n1_; clear n0_ n1_; clear ho hb hg hat; refine hK.out _ _ trivial (fun hHeld => ?_); clear hK K; refine norm_ (a' := ?_) ?_ ?_; rotate_left
  ·show Act.put _ (some 11) _ = _
   simp only [Act.put, sA, sZ, sS, i64_w, i32_w]
   rfl
  refine one_ (i := 9) (N := some 16) #[Y,Y,Y,Y,Y,Y,Y,Y,Y,Y,Z] rfl rfl (one_of HT_.out (by kernel_rfl)) (by decide) (fun K hK => ?_); refine Kd.R_append_rows_step k37 (w0 := w) w.heap.size (by rfl) (.tmp 11) (.tmp 15) 24 37 (.agg #[(.int .i64 0), (.int .i64 0)]) 16 rfl Tryz.underlying24 info37 rfl (by decide) (by omega) v353 y352 y355 _ _ _ (fun _ => True) (fun _ => False) rfl rfl ?aO ?aR (fun _ _ h => h) (fun _ h => h.elim) ?aF ?aB ?aS ?aL ?_
  (case aR => exact cq (Kd.C_below HR358.out HB.out))
  (case aB => exact bq)
  (case aF => exact (fun _ _ => trivial))
  (case aO => exact (rq HO354))
  (case aS => exact (below_size bq))
  (case aL => have := LMc9.out; omega)
  intro v360 w17 ho hb hg hat; rw [← Ny359.out] at ho; have n0_ := ak (hb); have n1_ := ak (ho); clear HB; clear HO354; have HB := n0_; have HO361 := n1_; clear n0_ n1_; clear ho hb hg hat; refine hK.out _ _ trivial (fun hHeld => ?_); clear hK K; refine norm_ (a' := ?_) ?_ ?_; rotate_left
  ·show Act.put _ (some 16) _ = _
   simp only [Act.put, sA, sZ, sS, i64_w, i32_w]
   rfl
  refine pq_ (i := 10) (N := some 6) #[Y,Y,Y,Y,Y,Y,Y,Y,Y,Y,Y] HT_ ?_; refine done_ (done_of HT_.out (by kernel_rfl)) ?_; obtain ⟨Ao18, co18, eo18⟩ := Kd.R_slice HO361.out; subst eo18
  try go_wp2_with (((with_reducible refine gate_dst (N := 25) rfl ?_); refine Kd.R_lit k37 _ 37 ?hg (N := 25) ?hd (xs := ([] : List (S37))) (inner := []) (ok := fun _ => True) (okp := fun _ => True) ?hr ?hp (fun _ hk => hk) trivial (Below.refl _ _) (Nat.le_refl _) (by simp) ?_; (case hd => rfl); (case hg => rfl); (case hr => (go_simp; done)); (case hp => exact (Reps.none _ _)); intro v363 w19 ho20 hb hg_ hnew_; clear hg_ hnew_; (rw [← Ny362.out] at ho20); have n0_ := ak (Kd.R_elder' (rq HO361) (Kd.R_base ho20) hb); have n1_ := ak (Kd.R_lower (Kd.R_new' ho20 (Kd.R_lt (rq HO361))) (below_size bq)); have n2_ := ak (below_step bq hb); clear HO361; clear HB; have HO361 := n0_; have HO364 := n1_; have HB := n2_; clear n0_ n1_ n2_; clear hb ho20))
  go_ret2
  exact ⟨_, by first | rfl | (simp [errW_none, errW_some] <;> rfl) | (fail) | (simp [*, errW_none, errW_some] <;> rfl), by exact Kd.R_mono HO364.out (fun _ hk => trivial), bq⟩
 ·rw [if_neg c10] at H
  have c10b0 : ((y359.length : Int) == 0) = false := beq_eq_false_iff_ne.mpr c10; have c10b1 : ((y359.length : Int) != 0) = true := bne_iff_ne.mpr c10
  have c10b2 : ¬ (y359 = []) := fun h_ => c10 (by rw [h_]; rfl)
  obtain ⟨t365, A210, H⟩ := Option.bind_eq_some_iff.mp H
  have A21 := ak A210; clear A210
  by_cases c22 : t365 = true
  ·subst c22
   rw [if_pos rfl] at H; obtain ⟨t366, A230, H⟩ := Option.bind_eq_some_iff.mp H
   have A23 := ak A230; clear A230; simp only [Option.some.injEq, Prod.mk.injEq] at H; obtain ⟨rfl, rfl⟩ := H
   go_enter Tryz.func57, Tryz.ntmps57
   (try go_wp2); have n0_ := ak (below_drew1 HB.out); clear HB; have HB := n0_; clear n0_; have q25 : (a1 : Int) ≤ ((l0.length : Int) : Int) := dq; obtain ⟨i025, hi025, _, hsz25, _⟩ := info_parts info37; have hroom25 : l0.length ≤ c0 := HC0.out; have hC25 : Kd.C k37 _ A0 l0.length l0 := HR0.out; have hcut25 := cut_to (P := Tryz.prog) 24 37 .i64 Tryz.underlying24 hi025 A0 l0.length c0 a1 (dq) q25 hroom25; have hr25 := Kd.C_take (m := (a1 : Int).toNat) hC25 (by omega); have hy25 : y348.length = (a1 : Int).toNat := (by rw [Ny348.out, List.length_take]; omega); rw [← Ny348.out] at hr25; rw [← hy25] at hcut25; have HR351 := ak hr25; have HC351 := ak (show y348.length ≤ c0 from by omega); clear hr25 hC25 hroom25 hi025 hsz25; have KY25 := ak hy25; clear hy25; replace q25 := eq_true q25; have q26 : ((ji6) : Int) ≤ ((l0.length : Int) : Int) := dq; obtain ⟨i026, hi026, _, hsz26, _⟩ := info_parts info37; have hroom26 : l0.length ≤ c0 := HC0.out; have hC26 : Kd.C k37 _ A0 l0.length l0 := HR0.out; have q026 : (0 : Int) ≤ ((ji6) : Int) := dq; have hcut26 := cut_from (P := Tryz.prog) 24 37 .i64 Tryz.underlying24 hi026 2 hsz26 A0 l0.length c0 (ji6) q026 q26; have hr26 := Kd.C_drop (m := ((ji6) : Int).toNat) (c := c0) hC26 (by omega) hroom26; obtain ⟨A26, hA26⟩ : ∃ A1, A1 = (if c0 = ((ji6) : Int).toNat then A0 else (A0 : Option Addr).map (·.add (((ji6) : Int).toNat * 2))) := ⟨_, rfl⟩; obtain ⟨c26, hc26⟩ : ∃ c1, c1 = c0 - ((ji6) : Int).toNat := ⟨_, rfl⟩; have hy26 : y355.length = l0.length - ((ji6) : Int).toNat := (by rw [Ny355.out, List.length_drop] <;> omega); rw [show (l0).drop ((ji6) : Int).toNat = y355 from Ny355.out.symm] at hr26; replace hr26 : Kd.C k37 _ A26 y355.length y355 := (by rw [hA26]; exact hr26); rw [← hy26, ← hA26, ← hc26] at hcut26; have HR358 := ak hr26; have HC358 := ak (show y355.length ≤ c26 from by rw [hy26, hc26]; exact Nat.sub_le_sub_right hroom26 _); clear hr26 hC26 hroom26 hi026 hsz26 hc26; have KY26 := ak hy26; have KA26 := ak hA26; clear hy26 hA26; replace q26 := eq_true q26; refine start_ (n := 11) (S := fun w' => True) (ds := []) #[Z,Z,Z,Z,Z,Z,Z,Z,Z,Z,Z] (by kernel_rfl) rfl rfl trivial (fun hHeld => ?_); refine with_tabW spec_l8Without.tab1 spec_l8Without.bits1 (fun HT_ HW_ => ?_)
   generalize w.drew = w24 at HB HR351 HR358 hHeld ⊢
   refine pq_ (i := 1) (N := some 8) #[Z,Y,Z,Z,Z,Z,Z,Z,Z,Z,Z] HT_ ?_; refine pq_ (i := 2) (N := some 9) #[Z,Y,Y,Z,Z,Z,Z,Z,Z,Z,Z] HT_ ?_; refine pq_ (i := 3) (N := some 10) #[Z,Y,Y,Y,Z,Z,Z,Z,Z,Z,Z] HT_ ?_; refine pq_ (i := 5) (N := some 12) #[Z,Y,Y,Y,Z,Y,Z,Z,Z,Z,Z] HT_ ?_; refine pq_ (i := 6) (N := some 13) #[Z,Y,Y,Y,Z,Y,Y,Z,Z,Z,Z] HT_ ?_; refine pq_ (i := 7) (N := some 14) #[Z,Y,Y,Y,Z,Y,Y,Y,Z,Z,Z] HT_ ?_; refine pq_ (i := 8) (N := some 15) #[Z,Y,Y,Y,Z,Y,Y,Y,Y,Z,Z] HT_ ?_; refine one_ (i := 0) (N := some 7) #[Y,Y,Y,Y,Z,Y,Y,Y,Y,Z,Z] rfl rfl (one_of HT_.out (by kernel_rfl)) (by decide) (fun K hK => ?_); refine Kd.R_lit_step k37 _ 37 ?hg (N := 7) ?hd (xs := ([] : List (S37))) (inner := []) (ok := fun _ => True) (okp := fun _ => True) ?hr ?hp (fun _ hk => hk) trivial (Below.refl _ _) (Nat.le_refl _) (by simp) ?_; (case hd => rfl); (case hg => rfl); (case hr => (go_simp; done)); (case hp => exact (Reps.none _ _)); intro v346 w27 ho28 hb hg_ hnew_; clear hg_ hnew_
   (rw [← Ny345.out] at ho28)
   have n0_ := ak (Kd.R_lower ho28 (below_size bq)); have n1_ := ak (below_step bq hb); clear HB; have HO347 := n0_; have HB := n1_; clear n0_ n1_; clear hb ho28; refine hK.out _ _ trivial (fun hHeld => ?_); clear hK K; refine norm_ (a' := ?_) ?_ ?_; rotate_left
   ·show Act.put _ (some 7) _ = _
    simp only [Act.put, sA, sZ, sS, i64_w, i32_w]
    rfl
   refine one_ (i := 4) (N := some 11) #[Y,Y,Y,Y,Y,Y,Y,Y,Y,Z,Z] rfl rfl (one_of HT_.out (by kernel_rfl)) (by decide) (fun K hK => ?_); refine Kd.R_append_rows_step k37 (w0 := w) w.heap.size (by rfl) (.tmp 7) (.tmp 10) 24 37 (.agg #[(.int .i64 0), (.int .i64 0)]) 16 rfl Tryz.underlying24 info37 rfl (by decide) (by omega) v346 y345 y348 _ _ _ (fun _ => True) (fun _ => False) rfl rfl ?aO ?aR (fun _ _ h => h) (fun _ h => h.elim) ?aF ?aB ?aS ?aL ?_
   (case aR => exact cq (Kd.C_below HR351.out HB.out))
   (case aB => exact bq)
   (case aF => exact (fun _ _ => trivial))
   (case aO => exact (rq HO347))
   (case aS => exact (below_size bq))
   (case aL => have := LMc5.out; omega)
   intro v353 w29 ho hb hg hat; rw [← Ny352.out] at ho; have n0_ := ak (hb); have n1_ := ak (ho); clear HB; clear HO347; have HB := n0_; have HO354 := n1_; clear n0_ n1_; clear ho hb hg hat; refine hK.out _ _ trivial (fun hHeld => ?_); clear hK K; refine norm_ (a' := ?_) ?_ ?_; rotate_left
   ·show Act.put _ (some 11) _ = _
    simp only [Act.put, sA, sZ, sS, i64_w, i32_w]
    rfl
   refine one_ (i := 9) (N := some 16) #[Y,Y,Y,Y,Y,Y,Y,Y,Y,Y,Z] rfl rfl (one_of HT_.out (by kernel_rfl)) (by decide) (fun K hK => ?_); refine Kd.R_append_rows_step k37 (w0 := w) w.heap.size (by rfl) (.tmp 11) (.tmp 15) 24 37 (.agg #[(.int .i64 0), (.int .i64 0)]) 16 rfl Tryz.underlying24 info37 rfl (by decide) (by omega) v353 y352 y355 _ _ _ (fun _ => True) (fun _ => False) rfl rfl ?aO ?aR (fun _ _ h => h) (fun _ h => h.elim) ?aF ?aB ?aS ?aL ?_
   (case aR => exact cq (Kd.C_below HR358.out HB.out))
   (case aB => exact bq)
   (case aF => exact (fun _ _ => trivial))
   (case aO => exact (rq HO354))
   (case aS => exact (below_size bq))
   (case aL => have := LMc9.out; omega)
   intro v360 w30 ho hb hg hat; rw [← Ny359.out] at ho; have n0_ := ak (hb); have n1_ := ak (ho); clear HB; clear HO354; have HB := n0_; have HO361 := n1_; clear n0_ n1_; clear ho hb hg hat; refine hK.out _ _ trivial (fun hHeld => ?_); clear hK K; refine norm_ (a' := ?_) ?_ ?_; rotate_left
   ·show Act.put _ (some 16) _ = _
    simp only [Act.put, sA, sZ, sS, i64_w, i32_w]
    rfl
   refine pq_ (i := 10) (N := some 6) #[Y,Y,Y,Y,Y,Y,Y,Y,Y,Y,Y] HT_ ?_; refine done_ (done_of HT_.out (by kernel_rfl)) ?_; obtain ⟨Ao31, co31, eo31⟩ := Kd.R_slice HO361.out; subst eo31
   try go_wp2_with (first | (go_at_call 56; (with_reducible refine (spec_l8Hangs.calls k _ _ y359 true _ ?side1 ?side2 A21.out).mono ?_); (case side1 => exact cq (Kd.R_reads' HO361.out).2.2); (case side2 => exact (Kd.R_reads' HO361.out).2.1); rintro e w32 ⟨rfl, hb⟩; have n0_ := ak (Kd.R_below (rq HO361) hb); have n1_ := ak (below_step bq hb); clear HO361; clear HB; have HO361 := n0_; have HB := n1_; clear n0_ n1_; (try clear hb)) | ((with_reducible refine gate_callee (f := 39) rfl ?_); refine goesL_ (some 27) rfl rfl Tryz.func39 (by kernel_rfl) rfl #[.slice Ao31 y359.length co31] rfl aq ?_; (with_reducible refine (spec_l8Down.calls k _ _ y359 t366 _ ?side1 ?side2 A23.out).mono ?_); (case side1 => exact cq (Kd.R_reads' HO361.out).2.2); (case side2 => exact (Kd.R_reads' HO361.out).2.1); rintro e w33 ⟨v367, rfl, ho0, hb⟩; refine ⟨_, rfl, ?_⟩; have n0_ := ak (Kd.R_elder' (rq HO361) (Kd.R_base ho0) hb); have n1_ := ak (Kd.R_lower (Kd.R_new' ho0 (Kd.R_lt (rq HO361))) (below_size bq)); have n2_ := ak (below_step bq hb); clear HO361; clear HB; have HO361 := n0_; have HO368 := n1_; have HB := n2_; clear n0_ n1_ n2_; (try clear hb); (try clear ho0)))
   go_ret2
   exact ⟨_, by first | rfl | (simp [errW_none, errW_some] <;> rfl) | (fail) | (simp [*, errW_none, errW_some] <;> rfl), by exact Kd.R_mono HO368.out (fun _ hk => trivial), bq⟩
  ·replace c22 := Bool.eq_false_iff.mpr c22
   subst c22; rw [if_neg (show ¬ (false = true) by decide)] at H; obtain ⟨y369, hy369⟩ : ∃ y_ : List (S37), y_ = (([] : List (S37))) := ⟨_, rfl⟩
   replace H : (some (y369, false)) = some (r1, r2) := by first | (rw [hy369]; with_reducible exact H) | (have H2_ := (Option.bind_some _ _).symm.trans H; rw [hy369]; with_reducible exact H2_) | (have H2_ := (Option.bind_some _ _).symm.trans H; with_reducible exact H2_) | with_reducible exact H | (rw [hy369]; exact H) | exact H
   have Ny369 := ak hy369; clear hy369; simp only [Option.some.injEq, Prod.mk.injEq] at H; obtain ⟨rfl, rfl⟩ := H
   go_enter Tryz.func57, Tryz.ntmps57
   (try go_wp2); have n0_ := ak (below_drew1 HB.out); clear HB; have HB := n0_; clear n0_; have q35 : (a1 : Int) ≤ ((l0.length : Int) : Int) := dq; obtain ⟨i035, hi035, _, hsz35, _⟩ := info_parts info37; have hroom35 : l0.length ≤ c0 := HC0.out; have hC35 : Kd.C k37 _ A0 l0.length l0 := HR0.out; have hcut35 := cut_to (P := Tryz.prog) 24 37 .i64 Tryz.underlying24 hi035 A0 l0.length c0 a1 (dq) q35 hroom35; have hr35 := Kd.C_take (m := (a1 : Int).toNat) hC35 (by omega); have hy35 : y348.length = (a1 : Int).toNat := (by rw [Ny348.out, List.length_take]; omega); rw [← Ny348.out] at hr35; rw [← hy35] at hcut35; have HR351 := ak hr35; have HC351 := ak (show y348.length ≤ c0 from by omega); clear hr35 hC35 hroom35 hi035 hsz35; have KY35 := ak hy35; clear hy35; replace q35 := eq_true q35; have q36 : ((ji6) : Int) ≤ ((l0.length : Int) : Int) := dq; obtain ⟨i036, hi036, _, hsz36, _⟩ := info_parts info37; have hroom36 : l0.length ≤ c0 := HC0.out; have hC36 : Kd.C k37 _ A0 l0.length l0 := HR0.out; have q036 : (0 : Int) ≤ ((ji6) : Int) := dq; have hcut36 := cut_from (P := Tryz.prog) 24 37 .i64 Tryz.underlying24 hi036 2 hsz36 A0 l0.length c0 (ji6) q036 q36; have hr36 := Kd.C_drop (m := ((ji6) : Int).toNat) (c := c0) hC36 (by omega) hroom36; obtain ⟨A36, hA36⟩ : ∃ A1, A1 = (if c0 = ((ji6) : Int).toNat then A0 else (A0 : Option Addr).map (·.add (((ji6) : Int).toNat * 2))) := ⟨_, rfl⟩; obtain ⟨c36, hc36⟩ : ∃ c1, c1 = c0 - ((ji6) : Int).toNat := ⟨_, rfl⟩; have hy36 : y355.length = l0.length - ((ji6) : Int).toNat := (by rw [Ny355.out, List.length_drop] <;> omega); rw [show (l0).drop ((ji6) : Int).toNat = y355 from Ny355.out.symm] at hr36; replace hr36 : Kd.C k37 _ A36 y355.length y355 := (by rw [hA36]; exact hr36); rw [← hy36, ← hA36, ← hc36] at hcut36; have HR358 := ak hr36; have HC358 := ak (show y355.length ≤ c36 from by rw [hy36, hc36]; exact Nat.sub_le_sub_right hroom36 _); clear hr36 hC36 hroom36 hi036 hsz36 hc36; have KY36 := ak hy36; have KA36 := ak hA36; clear hy36 hA36; replace q36 := eq_true q36; refine start_ (n := 11) (S := fun w' => True) (ds := []) #[Z,Z,Z,Z,Z,Z,Z,Z,Z,Z,Z] (by kernel_rfl) rfl rfl trivial (fun hHeld => ?_); refine with_tabW spec_l8Without.tab1 spec_l8Without.bits1 (fun HT_ HW_ => ?_)
   generalize w.drew = w34 at HB HR351 HR358 hHeld ⊢
   refine pq_ (i := 1) (N := some 8) #[Z,Y,Z,Z,Z,Z,Z,Z,Z,Z,Z] HT_ ?_; refine pq_ (i := 2) (N := some 9) #[Z,Y,Y,Z,Z,Z,Z,Z,Z,Z,Z] HT_ ?_; refine pq_ (i := 3) (N := some 10) #[Z,Y,Y,Y,Z,Z,Z,Z,Z,Z,Z] HT_ ?_; refine pq_ (i := 5) (N := some 12) #[Z,Y,Y,Y,Z,Y,Z,Z,Z,Z,Z] HT_ ?_; refine pq_ (i := 6) (N := some 13) #[Z,Y,Y,Y,Z,Y,Y,Z,Z,Z,Z] HT_ ?_; refine pq_ (i := 7) (N := some 14) #[Z,Y,Y,Y,Z,Y,Y,Y,Z,Z,Z] HT_ ?_; refine pq_ (i := 8) (N := some 15) #[Z,Y,Y,Y,Z,Y,Y,Y,Y,Z,Z] HT_ ?_; refine one_ (i := 0) (N := some 7) #[Y,Y,Y,Y,Z,Y,Y,Y,Y,Z,Z] rfl rfl (one_of HT_.out (by kernel_rfl)) (by decide) (fun K hK => ?_); refine Kd.R_lit_step k37 _ 37 ?hg (N := 7) ?hd (xs := ([] : List (S37))) (inner := []) (ok := fun _ => True) (okp := fun _ => True) ?hr ?hp (fun _ hk => hk) trivial (Below.refl _ _) (Nat.le_refl _) (by simp) ?_; (case hd => rfl); (case hg => rfl); (case hr => (go_simp; done)); (case hp => exact (Reps.none _ _)); intro v346 w37 ho38 hb hg_ hnew_; clear hg_ hnew_
   (rw [← Ny345.out] at ho38)
   have n0_ := ak (Kd.R_lower ho38 (below_size bq)); have n1_ := ak (below_step bq hb); clear HB; have HO347 := n0_; have HB := n1_; clear n0_ n1_; clear hb ho38; refine hK.out _ _ trivial (fun hHeld => ?_); clear hK K; refine norm_ (a' := ?_) ?_ ?_; rotate_left
   ·show Act.put _ (some 7) _ = _
    simp only [Act.put, sA, sZ, sS, i64_w, i32_w]
    rfl
   refine one_ (i := 4) (N := some 11) #[Y,Y,Y,Y,Y,Y,Y,Y,Y,Z,Z] rfl rfl (one_of HT_.out (by kernel_rfl)) (by decide) (fun K hK => ?_); refine Kd.R_append_rows_step k37 (w0 := w) w.heap.size (by rfl) (.tmp 7) (.tmp 10) 24 37 (.agg #[(.int .i64 0), (.int .i64 0)]) 16 rfl Tryz.underlying24 info37 rfl (by decide) (by omega) v346 y345 y348 _ _ _ (fun _ => True) (fun _ => False) rfl rfl ?aO ?aR (fun _ _ h => h) (fun _ h => h.elim) ?aF ?aB ?aS ?aL ?_
   (case aR => exact cq (Kd.C_below HR351.out HB.out))
   (case aB => exact bq)
   (case aF => exact (fun _ _ => trivial))
   (case aO => exact (rq HO347))
   (case aS => exact (below_size bq))
   (case aL => have := LMc5.out; omega)
   intro v353 w39 ho hb hg hat; rw [← Ny352.out] at ho; have n0_ := ak (hb); have n1_ := ak (ho); clear HB; clear HO347; have HB := n0_; have HO354 := n1_; clear n0_ n1_; clear ho hb hg hat; refine hK.out _ _ trivial (fun hHeld => ?_); clear hK K; refine norm_ (a' := ?_) ?_ ?_; rotate_left
   ·show Act.put _ (some 11) _ = _
    simp only [Act.put, sA, sZ, sS, i64_w, i32_w]
    rfl
   refine one_ (i := 9) (N := some 16) #[Y,Y,Y,Y,Y,Y,Y,Y,Y,Y,Z] rfl rfl (one_of HT_.out (by kernel_rfl)) (by decide) (fun K hK => ?_); refine Kd.R_append_rows_step k37 (w0 := w) w.heap.size (by rfl) (.tmp 11) (.tmp 15) 24 37 (.agg #[(.int .i64 0), (.int .i64 0)]) 16 rfl Tryz.underlying24 info37 rfl (by decide) (by omega) v353 y352 y355 _ _ _ (fun _ => True) (fun _ => False) rfl rfl ?aO ?aR (fun _ _ h => h) (fun _ h => h.elim) ?aF ?aB ?aS ?aL ?_
   (case aR => exact cq (Kd.C_below HR358.out HB.out))
   (case aB => exact bq)
   (case aF => exact (fun _ _ => trivial))
   (case aO => exact (rq HO354))
   (case aS => exact (below_size bq))
   (case aL => have := LMc9.out; omega)
   intro v360 w40 ho hb hg hat; rw [← Ny359.out] at ho; have n0_ := ak (hb); have n1_ := ak (ho); clear HB; clear HO354; have HB := n0_; have HO361 := n1_; clear n0_ n1_; clear ho hb hg hat; refine hK.out _ _ trivial (fun hHeld => ?_); clear hK K; refine norm_ (a' := ?_) ?_ ?_; rotate_left
   ·show Act.put _ (some 16) _ = _
    simp only [Act.put, sA, sZ, sS, i64_w, i32_w]
    rfl
   refine pq_ (i := 10) (N := some 6) #[Y,Y,Y,Y,Y,Y,Y,Y,Y,Y,Y] HT_ ?_; refine done_ (done_of HT_.out (by kernel_rfl)) ?_; obtain ⟨Ao41, co41, eo41⟩ := Kd.R_slice HO361.out; subst eo41
   try go_wp2_with (first | (go_at_call 56; (with_reducible refine (spec_l8Hangs.calls k _ _ y359 false _ ?side1 ?side2 A21.out).mono ?_); (case side1 => exact cq (Kd.R_reads' HO361.out).2.2); (case side2 => exact (Kd.R_reads' HO361.out).2.1); rintro e w42 ⟨rfl, hb⟩; have n0_ := ak (Kd.R_below (rq HO361) hb); have n1_ := ak (below_step bq hb); clear HO361; clear HB; have HO361 := n0_; have HB := n1_; clear n0_ n1_; (try clear hb)) | ((with_reducible refine gate_dst (N := 25) rfl ?_); refine Kd.R_lit k37 _ 37 ?hg (N := 25) ?hd (xs := ([] : List (S37))) (inner := []) (ok := fun _ => True) (okp := fun _ => True) ?hr ?hp (fun _ hk => hk) trivial (Below.refl _ _) (Nat.le_refl _) (by simp) ?_; (case hd => rfl); (case hg => rfl); (case hr => (go_simp; done)); (case hp => exact (Reps.none _ _)); intro v370 w43 ho44 hb hg_ hnew_; clear hg_ hnew_; (rw [← Ny369.out] at ho44); have n0_ := ak (Kd.R_elder' (rq HO361) (Kd.R_base ho44) hb); have n1_ := ak (Kd.R_lower (Kd.R_new' ho44 (Kd.R_lt (rq HO361))) (below_size bq)); have n2_ := ak (below_step bq hb); clear HO361; clear HB; have HO361 := n0_; have HO371 := n1_; have HB := n2_; clear n0_ n1_ n2_; clear hb ho44))
   go_ret2
   exact ⟨_, by first | rfl | (simp [errW_none, errW_some] <;> rfl) | (fail) | (simp [*, errW_none, errW_some] <;> rfl), by exact Kd.R_mono HO371.out (fun _ hk => trivial), bq⟩
/-! ### spec_l8Ground: function 68 -/
def spec_l8Ground.l0 : Nat → List (S37) → Int → Int → Int → Option (Int × Int)
 | 0, _, _, _, _ => none
 | k + 1, x0, x4, x5, x6 => if x6 < (x0.length : Int) then (if 0 ≤ x6 then (if ((rd_T37 x0 x6).f1) = 0 then (if x4 < 0 then (spec_l8Ground.l0 k x0 ((rd_T37 x0 x6).f0) (wrap64 (((rd_T37 x0 x6).f0) + 1)) (wrap64 (x6 + 1))) else (spec_l8Ground.l0 k x0 x4 (wrap64 (((rd_T37 x0 x6).f0) + 1)) (wrap64 (x6 + 1)))) else (spec_l8Ground.l0 k x0 x4 x5 (wrap64 (x6 + 1)))) else (none)) else (some (x4, x5))
def spec_l8Ground.f (k : Nat) (l0 : List (S37)) : Option (Int × Int) := spec_l8Ground.l0 k l0 (-1) (-1) 0
theorem spec_l8Ground.calls (k : Nat) (A0 : Option Addr) (c0 : Nat) (l0 : List (S37)) (r1 : Int) (r2 : Int) (w : World) (hr0 : Kd.C k37 w A0 l0.length l0) (hc0 : l0.length ≤ c0) (h : spec_l8Ground.f k l0 = some (r1, r2)) :
  Calls Tryz.prog 68 #[.slice A0 l0.length c0] w fun e w' => e = .returned (.tuple #[.int .i64 r1, .int .i64 r2]) ∧ Drawn0 w w' := by
 have HR0 := ak hr0; have HC0 := ak hc0; clear hr0 hc0; have H : (spec_l8Ground.l0 k l0 (-1) (-1) 0) = some (r1, r2) := h; clear h; have H' := ak H; clear H
 go_enter Tryz.func68, Tryz.ntmps68
 go_wp2
 go_loopg [4, 5, 6] k (fun kq v4 v5 v6 w' => ∃ (x4_1 : Int) (x5_1 : Int) (x6_1 : Int), v4 = .int .i64 x4_1 ∧ v5 = .int .i64 x5_1 ∧ v6 = .int .i64 x6_1 ∧ Aside0 (spec_l8Ground.l0 kq l0 x4_1 x5_1 x6_1 = some (r1, r2)) ∧ Aside0 (kq ≤ k) ∧ Drawn0 w w')
 case atStart => exact ⟨((-1)), ((-1)), (0), sq, sq, sq, H', ⟨Nat.le_refl _⟩, by repeat (exact Drawn0.refl _)⟩
 case round =>
  clear H'; obtain ⟨x4_1, x5_1, x6_1, rfl, rfl, rfl, HA, HK1, ⟨m1, rfl⟩⟩ := hrel
  cases gk with
  | zero => exact absurd HA.out (by simp [spec_l8Ground.l0])
  | succ k1 =>
   have H := HA.out; clear HA; simp only [spec_l8Ground.l0] at H
   by_cases c2 : x6_1 < (l0.length : Int)
   ·rw [if_pos c2] at H
    have c2b0 := decide_eq_true c2; clear c2
    revert H; refine ig_ fun c3 H => ?_
    have c3b0 := decide_eq_true c3; clear c3
    by_cases c4 : ((rd_T37 l0 x6_1).f1) = 0
    ·rw [if_pos c4] at H
     have c4b0 : (((rd_T37 l0 x6_1).f1) == 0) = true := beq_iff_eq.mpr c4; have c4b1 : (((rd_T37 l0 x6_1).f1) != 0) = false := bne_eq_false_iff_eq.mpr c4; clear c4
     by_cases c5 : x4_1 < 0
     ·rw [if_pos c5] at H
      have c5b0 := decide_eq_true c5; clear c5; have H' := ak H; clear H; have p372 : 0 ≤ (x6_1 : Int) := dq; have q372 : x6_1 < (l0.length : Int) := dq; obtain ⟨ad372, e372, hx372_0, hx372_1⟩ := at_T37 HR0.out x6_1 p372 q372; cases e372; replace p372 := eq_true p372; replace q372 := eq_true q372; have p373 : 0 ≤ (x6_1 : Int) := dq; have q373 : x6_1 < (l0.length : Int) := dq; obtain ⟨ad373, e373, hx373_0, hx373_1⟩ := at_T37 HR0.out x6_1 p373 q373; obtain rfl : ad372 = ad373 := (by injection e373); replace p373 := eq_true p373; replace q373 := eq_true q373; have p374 : 0 ≤ (x6_1 : Int) := dq; have q374 : x6_1 < (l0.length : Int) := dq; obtain ⟨ad374, e374, hx374_0, hx374_1⟩ := at_T37 HR0.out x6_1 p374 q374; obtain rfl : ad372 = ad374 := (by injection e374); replace p374 := eq_true p374; replace q374 := eq_true q374; go_wp2; go_roundg k1
      case measure => have := HK1.out; omega
      case rel => exact ⟨((rd_T37 l0 x6_1).f0), (wrap64 (((rd_T37 l0 x6_1).f0) + 1)), (wrap64 (x6_1 + 1)), sq, sq, sq, H', ⟨by have := HK1.out; omega⟩, by repeat (first | exact Drawn0.refl _ | apply Drawn0.step)⟩
     ·rw [if_neg c5] at H
      have c5b0 := decide_eq_false c5; clear c5; have H' := ak H; clear H; have p372 : 0 ≤ (x6_1 : Int) := dq; have q372 : x6_1 < (l0.length : Int) := dq; obtain ⟨ad372, e372, hx372_0, hx372_1⟩ := at_T37 HR0.out x6_1 p372 q372; cases e372; replace p372 := eq_true p372; replace q372 := eq_true q372; have p375 : 0 ≤ (x6_1 : Int) := dq; have q375 : x6_1 < (l0.length : Int) := dq; obtain ⟨ad375, e375, hx375_0, hx375_1⟩ := at_T37 HR0.out x6_1 p375 q375; obtain rfl : ad372 = ad375 := (by injection e375); replace p375 := eq_true p375; replace q375 := eq_true q375; go_wp2; go_roundg k1
      case measure => have := HK1.out; omega
      case rel => exact ⟨(x4_1), (wrap64 (((rd_T37 l0 x6_1).f0) + 1)), (wrap64 (x6_1 + 1)), sq, sq, sq, H', ⟨by have := HK1.out; omega⟩, by repeat (first | exact Drawn0.refl _ | apply Drawn0.step)⟩
    ·rw [if_neg c4] at H
     have c4b0 : (((rd_T37 l0 x6_1).f1) == 0) = false := beq_eq_false_iff_ne.mpr c4; have c4b1 : (((rd_T37 l0 x6_1).f1) != 0) = true := bne_iff_ne.mpr c4; have H' := ak H; clear H; have p372 : 0 ≤ (x6_1 : Int) := dq; have q372 : x6_1 < (l0.length : Int) := dq; obtain ⟨ad372, e372, hx372_0, hx372_1⟩ := at_T37 HR0.out x6_1 p372 q372; cases e372; replace p372 := eq_true p372; replace q372 := eq_true q372; go_wp2; go_roundg k1
     case measure => have := HK1.out; omega
     case rel => exact ⟨(x4_1), (x5_1), (wrap64 (x6_1 + 1)), sq, sq, sq, H', ⟨by have := HK1.out; omega⟩, by repeat (first | exact Drawn0.refl _ | apply Drawn0.step)⟩
   ·rw [if_neg c2] at H
    have c2b0 := decide_eq_false c2; clear c2; simp only [Option.some.injEq, Prod.mk.injEq] at H; obtain ⟨rfl, rfl⟩ := H; go_wp2
    go_ret2
    exact ⟨sq, by repeat (first | exact Drawn0.refl _ | apply Drawn0.step)⟩
/-! ### spec_l8Middle_0: function 70 -/
def spec_l8Middle_0.l0 : Nat → List (S37) → Int → Int → Option (Int)
 | 0, _, _, _ => none
 | k + 1, x0, x5, x6 => if x6 < (x0.length : Int) then (if 0 ≤ x6 then (spec_l8Middle_0.l0 k x0 (wrap64 ((wrap64 (x5 + (wrap64 (2 * ((rd_T37 x0 x6).f0))))) + 1)) (wrap64 (x6 + 1))) else (none)) else (some x5)
def spec_l8Middle_0.f (k : Nat) (l0 : List (S37)) : Option (Int) := spec_l8Middle_0.l0 k l0 0 0
theorem spec_l8Middle_0.calls (k : Nat) (A0 : Option Addr) (c0 : Nat) (l0 : List (S37)) (r : Int) (w : World) (hr0 : Kd.C k37 w A0 l0.length l0) (hc0 : l0.length ≤ c0) (h : spec_l8Middle_0.f k l0 = some r) :
  Calls Tryz.prog 70 #[.slice A0 l0.length c0, .int .i64 0] w fun e w' => e = .returned (.int .i64 r) ∧ Drawn0 w w' := by
 have HR0 := ak hr0; have HC0 := ak hc0; clear hr0 hc0; have H : (spec_l8Middle_0.l0 k l0 0 0) = some r := h; clear h; have H' := ak H; clear H
 go_enter Tryz.func70, Tryz.ntmps70
 go_wp2
 go_loopg [5, 6] k (fun kq v5 v6 w' => ∃ (x5_1 : Int) (x6_1 : Int), v5 = .int .i64 x5_1 ∧ v6 = .int .i64 x6_1 ∧ Aside0 (spec_l8Middle_0.l0 kq l0 x5_1 x6_1 = some r) ∧ Aside0 (kq ≤ k) ∧ Drawn0 w w')
 case atStart => exact ⟨(0), (0), sq, sq, H', ⟨Nat.le_refl _⟩, by repeat (exact Drawn0.refl _)⟩
 case round =>
  clear H'; obtain ⟨x5_1, x6_1, rfl, rfl, HA, HK1, ⟨m1, rfl⟩⟩ := hrel
  cases gk with
  | zero => exact absurd HA.out (by simp [spec_l8Middle_0.l0])
  | succ k1 =>
   have H := HA.out; clear HA; simp only [spec_l8Middle_0.l0] at H
   by_cases c2 : x6_1 < (l0.length : Int)
   ·rw [if_pos c2] at H
    have c2b0 := decide_eq_true c2; clear c2
    revert H; refine ig_ fun c3 H => ?_
    have c3b0 := decide_eq_true c3; clear c3; have H' := ak H; clear H; have p376 : 0 ≤ (x6_1 : Int) := dq; have q376 : x6_1 < (l0.length : Int) := dq; obtain ⟨ad376, e376, hx376_0, hx376_1⟩ := at_T37 HR0.out x6_1 p376 q376; cases e376; replace p376 := eq_true p376; replace q376 := eq_true q376; go_wp2; go_roundg k1
    case measure => have := HK1.out; omega
    case rel => exact ⟨(wrap64 ((wrap64 (x5_1 + (wrap64 (2 * ((rd_T37 l0 x6_1).f0))))) + 1)), (wrap64 (x6_1 + 1)), sq, sq, H', ⟨by have := HK1.out; omega⟩, by repeat (first | exact Drawn0.refl _ | apply Drawn0.step)⟩
   ·rw [if_neg c2] at H
    have c2b0 := decide_eq_false c2; clear c2; obtain rfl := Option.some.inj H; go_wp2; go_ret; exact ⟨sq, by repeat (first | exact Drawn0.refl _ | apply Drawn0.step)⟩
/-! ### spec_l8Over: function 69 -/
def spec_l8Over.f (a0 : Int) (a1 : Int) (a2 : Int) (a3 : Int) : Option (Int) := if a0 < (wrap64 ((wrap64 (2 * a1)) * a2)) then (some (-1)) else (if a0 > (wrap64 ((wrap64 (2 * a1)) * a3)) then (some 1) else (some 0))
theorem spec_l8Over.calls (a0 : Int) (a1 : Int) (a2 : Int) (a3 : Int) (r : Int) (w : World) (h : spec_l8Over.f a0 a1 a2 a3 = some r) :
  Calls Tryz.prog 69 #[.int .i64 a0, .int .i64 a1, .int .i64 a2, .int .i64 a3] w fun e w' => e = .returned (.int .i64 r) ∧ Drawn0 w w' := by
 have H : (if a0 < (wrap64 ((wrap64 (2 * a1)) * a2)) then (some (-1)) else (if a0 > (wrap64 ((wrap64 (2 * a1)) * a3)) then (some 1) else (some 0))) = some r := h; clear h
 by_cases c5 : a0 < (wrap64 ((wrap64 (2 * a1)) * a2))
 ·rw [if_pos c5] at H
  have c5b0 := decide_eq_true c5; clear c5; obtain rfl := Option.some.inj H
  go_enter Tryz.func69, Tryz.ntmps69
  go_wp2; go_ret; exact ⟨sq, by repeat (exact Drawn0.refl _)⟩
 ·rw [if_neg c5] at H
  have c5b0 := decide_eq_false c5; clear c5
  by_cases c6 : a0 > (wrap64 ((wrap64 (2 * a1)) * a3))
  ·rw [if_pos c6] at H
   have c6b0 : decide ((wrap64 ((wrap64 (2 * a1)) * a3)) < a0) = true := decide_eq_true c6; clear c6; obtain rfl := Option.some.inj H
   go_enter Tryz.func69, Tryz.ntmps69
   go_wp2; go_ret; exact ⟨sq, by repeat (exact Drawn0.refl _)⟩
  ·rw [if_neg c6] at H
   have c6b0 : decide ((wrap64 ((wrap64 (2 * a1)) * a3)) < a0) = false := decide_eq_false c6; clear c6; obtain rfl := Option.some.inj H
   go_enter Tryz.func69, Tryz.ntmps69
   go_wp2; go_ret; exact ⟨sq, by repeat (exact Drawn0.refl _)⟩
/-! ### spec_l8Side: function 38 -/
def spec_l8Side.f (k : Nat) (l0 : List (S37)) : Option (Int) := (spec_l8Ground.f k l0).bind fun bt377 => ((spec_l8Middle_0.f k l0).bind fun t379 => ((spec_l8Over.f t379 (l0.length : Int) bt377.1 bt377.2).bind fun t380 => (some t380)))
theorem spec_l8Side.calls (k : Nat) (A0 : Option Addr) (c0 : Nat) (l0 : List (S37)) (r : Int) (w : World) (hr0 : Kd.C k37 w A0 l0.length l0) (hc0 : l0.length ≤ c0) (h : spec_l8Side.f k l0 = some r) :
  Calls Tryz.prog 38 #[.slice A0 l0.length c0] w fun e w' => e = .returned (.int .i64 r) ∧ Drawn0 w w' := by
 have HR0 := ak hr0; have HC0 := ak hc0; clear hr0 hc0; have H : ((spec_l8Ground.f k l0).bind fun bt377 => ((spec_l8Middle_0.f k l0).bind fun t379 => ((spec_l8Over.f t379 (l0.length : Int) bt377.1 bt377.2).bind fun t380 => (some t380)))) = some r := h; clear h; obtain ⟨⟨t377, t378⟩, A20, H⟩ := Option.bind_eq_some_iff.mp H
 (try dsimp only at H)
 have A2 := ak A20; clear A20; obtain ⟨t379, A30, H⟩ := Option.bind_eq_some_iff.mp H
 have A3 := ak A30; clear A30; obtain ⟨t380, A40, H⟩ := Option.bind_eq_some_iff.mp H
 have A4 := ak A40; clear A40; obtain rfl := Option.some.inj H
 go_enter Tryz.func38, Tryz.ntmps38
 go_wp2_with (first | ((with_reducible refine gate_callee (f := 68) rfl ?_); refine goesL_ (some 7) rfl rfl Tryz.func68 (by kernel_rfl) rfl #[.slice A0 l0.length c0] rfl aq ?_; (with_reducible refine (spec_l8Ground.calls k _ _ l0 t377 t378 _ ?side1 ?side2 A2.out).mono ?_); (case side1 => exact cq HR0.out); (case side2 => exact HC0.out); rintro e w' ⟨rfl, ⟨nd, rfl⟩⟩; refine ⟨_, rfl, ?_⟩) | ((with_reducible refine gate_callee (f := 70) rfl ?_); refine goesL_ (some 11) rfl rfl Tryz.func70 (by kernel_rfl) rfl #[.slice A0 l0.length c0, .int .i64 0] rfl aq ?_; (with_reducible refine (spec_l8Middle_0.calls k _ _ l0 t379 _ ?side1 ?side2 A3.out).mono ?_); (case side1 => exact cq HR0.out); (case side2 => exact HC0.out); rintro e w' ⟨rfl, ⟨nd, rfl⟩⟩; refine ⟨_, rfl, ?_⟩) | ((with_reducible refine gate_callee (f := 69) rfl ?_); refine goesL_ (some 16) rfl rfl Tryz.func69 (by kernel_rfl) rfl #[.int .i64 t379, .int .i64 (l0.length : Int), .int .i64 t377, .int .i64 t378] rfl aq ?_; (with_reducible refine (spec_l8Over.calls t379 (l0.length : Int) t377 t378 t380 _ A4.out).mono ?_); rintro e w' ⟨rfl, ⟨nd, rfl⟩⟩; refine ⟨_, rfl, ?_⟩))
 go_ret; exact ⟨sq, by repeat (first | exact Drawn0.refl _ | apply Drawn0.step)⟩
/-! ### spec_l8Loose: function 25 -/
def spec_l8Loose.l0 : Nat → List (S37) → Bool → List Int → Int → Option (List Int)
 | 0, _, _, _, _ => none
 | k + 1, x0, x1, x5, x6 => if x6 < (x0.length : Int) then ((spec_l8Without.f k x0 x6).bind fun bt384 => (if bt384.2 = true then (if x1 = true then ((spec_l8Side.f k bt384.1).bind fun t388 => (if t388 = 0 then (if x5.length < 17592186044416 then (spec_l8Loose.l0 k x0 x1 (x5 ++ [x6]) (wrap64 (x6 + 1))) else (none)) else (spec_l8Loose.l0 k x0 x1 x5 (wrap64 (x6 + 1))))) else (if x5.length < 17592186044416 then (spec_l8Loose.l0 k x0 x1 (x5 ++ [x6]) (wrap64 (x6 + 1))) else (none))) else (spec_l8Loose.l0 k x0 x1 x5 (wrap64 (x6 + 1))))) else (some x5)
def spec_l8Loose.f (k : Nat) (l0 : List (S37)) (a1 : Bool) : Option (List Int) := spec_l8Loose.l0 k l0 a1 (([] : List Int)) 0
theorem spec_l8Loose.calls (k : Nat) (A0 : Option Addr) (c0 : Nat) (l0 : List (S37)) (a1 : Bool) (r : List Int) (w : World) (hr0 : Kd.C k37 w A0 l0.length l0) (hc0 : l0.length ≤ c0) (h : spec_l8Loose.f k l0 a1 = some r) :
  Calls Tryz.prog 25 #[.slice A0 l0.length c0, .bool a1] w fun e w' => ∃ v0_ : Value, e = .returned (v0_) ∧ Kd.R (Kd.int .i64) 3 w' w.heap.size (fun _ => True) v0_ r ∧ Below w.heap.size w w' := by
 have HR0 := ak hr0; have HC0 := ak hc0; clear hr0 hc0; have HB := ak (Below.refl w.heap.size w); have H : (spec_l8Loose.l0 k l0 a1 (([] : List Int)) 0) = some r := h; clear h; obtain ⟨y381, hy381⟩ : ∃ y_ : List Int, y_ = (([] : List Int)) := ⟨_, rfl⟩
 replace H : (spec_l8Loose.l0 k l0 a1 y381 0) = some r := by first | (rw [hy381]; with_reducible exact H) | (have H2_ := (Option.bind_some _ _).symm.trans H; rw [hy381]; with_reducible exact H2_) | (have H2_ := (Option.bind_some _ _).symm.trans H; with_reducible exact H2_) | with_reducible exact H | (rw [hy381]; exact H) | exact H
 have Ny381 := ak hy381; clear hy381; have H' := ak H; clear H
 go_enter Tryz.func25, Tryz.ntmps25
 go_wp2_with (((with_reducible refine gate_dst (N := 9) rfl ?_); refine Kd.R_lit (Kd.int .i64) _ 3 ?hg (N := 9) ?hd (xs := ([] : List Int)) (inner := []) (ok := fun _ => True) (okp := fun _ => True) ?hr ?hp (fun _ hk => hk) trivial (Below.refl _ _) (Nat.le_refl _) (by simp) ?_; (case hd => rfl); (case hg => rfl); (case hr => (go_simp; done)); (case hp => exact (Reps.none _ _)); intro v382 w3 ho4 hb hg_ hnew_; clear hg_ hnew_; (rw [← Ny381.out] at ho4); have n0_ := ak (Kd.R_lower ho4 (below_size bq)); have n1_ := ak (below_step bq hb); clear HB; have HO383 := n0_; have HB := n1_; clear n0_ n1_; clear hb ho4))
 go_loopg [5, 6] k (fun kq v5 v6 w' => ∃ (x5_1 : List Int) (x6_1 : Int), v6 = .int .i64 x6_1 ∧ Aside0 (spec_l8Loose.l0 kq l0 a1 x5_1 x6_1 = some r) ∧ Aside0 (kq ≤ k) ∧ Aside0 (Kd.R (Kd.int .i64) 3 w' w.heap.size (fun _ => True) v5 x5_1) ∧ Aside0 (Below w.heap.size w w'))
 case atStart => exact ⟨(y381), (0), sq, H', ⟨Nat.le_refl _⟩, ⟨rq HO383⟩, ⟨bq⟩⟩
 case round =>
  clear H'; obtain ⟨x5_1, x6_1, rfl, HA, HK1, HO_5, HB⟩ := hrel
  cases gk with
  | zero => exact absurd HA.out (by simp [spec_l8Loose.l0])
  | succ k1 =>
   have H := HA.out; clear HA; simp only [spec_l8Loose.l0] at H
   by_cases c5 : x6_1 < (l0.length : Int)
   ·rw [if_pos c5] at H
    have c5b0 := decide_eq_true c5; clear c5; obtain ⟨⟨t384, t385⟩, A60, H⟩ := Option.bind_eq_some_iff.mp H
    (try dsimp only at H)
    have A6 := ak A60; clear A60
    by_cases c7 : t385 = true
    ·subst c7
     rw [if_pos rfl] at H
     by_cases c8 : a1 = true
     ·subst c8
      rw [if_pos rfl] at H; obtain ⟨t388, A90, H⟩ := Option.bind_eq_some_iff.mp H
      have A9 := ak A90; clear A90
      by_cases c10 : t388 = 0
      ·rw [if_pos c10] at H
       have c10b0 : (t388 == 0) = true := beq_iff_eq.mpr c10; have c10b1 : (t388 != 0) = false := bne_eq_false_iff_eq.mpr c10; clear c10
       revert H; refine ig_ fun c11 H => ?_
       have LMc11 := ak c11; clear c11; obtain ⟨y389, hy389⟩ : ∃ y_ : List Int, y_ = (x5_1 ++ [x6_1]) := ⟨_, rfl⟩
       replace H : (spec_l8Loose.l0 k1 l0 true y389 (wrap64 (x6_1 + 1))) = some r := by first | (rw [hy389]; with_reducible exact H) | (have H2_ := (Option.bind_some _ _).symm.trans H; rw [hy389]; with_reducible exact H2_) | (have H2_ := (Option.bind_some _ _).symm.trans H; with_reducible exact H2_) | with_reducible exact H | (rw [hy389]; exact H) | exact H
       have Ny389 := ak hy389; clear hy389; have H' := ak H; clear H
       go_wp2_with (first | ((with_reducible refine gate_callee (f := 57) rfl ?_); refine goesL_ (some 19) rfl rfl Tryz.func57 (by kernel_rfl) rfl #[.slice A0 l0.length c0, .int .i64 x6_1] rfl aq ?_; (with_reducible refine (spec_l8Without.calls k1 _ _ l0 x6_1 t384 true _ ?side1 ?side2 A6.out).mono ?_); (case side1 => exact cq (Kd.C_below HR0.out HB.out)); (case side2 => exact HC0.out); rintro e w12 ⟨v386, rfl, ho0, hb⟩; refine ⟨_, rfl, ?_⟩; have n0_ := ak (Kd.R_below (rq HO_5) hb); have n1_ := ak (Kd.R_lower ho0 (below_size bq)); have n2_ := ak (below_step bq hb); clear HO_5; clear HB; have HO_5 := n0_; have HO387 := n1_; have HB := n2_; clear n0_ n1_ n2_; (try clear hb); (try clear ho0); obtain ⟨Ao13, co13, eo13⟩ := Kd.R_slice HO387.out; subst eo13) | (go_at_call 38; (with_reducible refine (spec_l8Side.calls k1 _ _ t384 t388 _ ?side1 ?side2 A9.out).mono ?_); (case side1 => exact cq (Kd.R_reads' HO387.out).2.2); (case side2 => exact (Kd.R_reads' HO387.out).2.1); rintro e w' ⟨rfl, ⟨nd, rfl⟩⟩) | ((with_reducible refine gate_builtin (b := .append) (xs := #[.tmp 32, .tmp 34]) rfl ?_); at_builtin; refine Kd.R_append (Kd.int .i64) (w0 := w) w.heap.size rfl (.tmp 32) (.tmp 34) 26 3 (.int .i64 0) 8 rfl Tryz.underlying26 info3 rfl (by decide) (by omega) u5 x5_1 x6_1 [.int .i64 x6_1] (fun _ => True) (fun _ => False) rfl rfl ?aP (fun _ hk => hk.elim) ?aF ?aO ?aB ?aS ?aL ?_; (case aP => exact rfl); (case aB => exact bq); (case aF => exact (fun _ _ => trivial)); (case aO => exact (rq HO_5)); (case aS => exact (below_size bq)); (case aL => have := LMc11.out; omega); intro v390 w14 ho hb hg hat; rw [← Ny389.out] at ho; have n0_ := ak (Kd.R_over' (rq HO387) (Kd.R_typed (rq HO_5)) (by decide) hg); have n1_ := ak (hb); have n2_ := ak (ho); clear HO387; clear HB; clear HO_5; have HO387 := n0_; have HB := n1_; have HO391 := n2_; clear n0_ n1_ n2_; clear ho hb hg hat))
       go_roundg k1
       case measure => have := HK1.out; omega
       case rel => exact ⟨(y389), (wrap64 (x6_1 + 1)), sq, H', ⟨by have := HK1.out; omega⟩, ⟨rq HO391⟩, ⟨bq⟩⟩
      ·rw [if_neg c10] at H
       have c10b0 : (t388 == 0) = false := beq_eq_false_iff_ne.mpr c10; have c10b1 : (t388 != 0) = true := bne_iff_ne.mpr c10; have H' := ak H; clear H
       go_wp2_with (first | ((with_reducible refine gate_callee (f := 57) rfl ?_); refine goesL_ (some 19) rfl rfl Tryz.func57 (by kernel_rfl) rfl #[.slice A0 l0.length c0, .int .i64 x6_1] rfl aq ?_; (with_reducible refine (spec_l8Without.calls k1 _ _ l0 x6_1 t384 true _ ?side1 ?side2 A6.out).mono ?_); (case side1 => exact cq (Kd.C_below HR0.out HB.out)); (case side2 => exact HC0.out); rintro e w15 ⟨v386, rfl, ho0, hb⟩; refine ⟨_, rfl, ?_⟩; have n0_ := ak (Kd.R_below (rq HO_5) hb); have n1_ := ak (Kd.R_lower ho0 (below_size bq)); have n2_ := ak (below_step bq hb); clear HO_5; clear HB; have HO_5 := n0_; have HO387 := n1_; have HB := n2_; clear n0_ n1_ n2_; (try clear hb); (try clear ho0); obtain ⟨Ao16, co16, eo16⟩ := Kd.R_slice HO387.out; subst eo16) | (go_at_call 38; (with_reducible refine (spec_l8Side.calls k1 _ _ t384 t388 _ ?side1 ?side2 A9.out).mono ?_); (case side1 => exact cq (Kd.R_reads' HO387.out).2.2); (case side2 => exact (Kd.R_reads' HO387.out).2.1); rintro e w' ⟨rfl, ⟨nd, rfl⟩⟩))
       go_roundg k1
       case measure => have := HK1.out; omega
       case rel => exact ⟨(x5_1), (wrap64 (x6_1 + 1)), sq, H', ⟨by have := HK1.out; omega⟩, ⟨rq HO_5⟩, ⟨bq⟩⟩
     ·replace c8 := Bool.eq_false_iff.mpr c8
      subst c8; rw [if_neg (show ¬ (false = true) by decide)] at H
      revert H; refine ig_ fun c17 H => ?_
      have LMc17 := ak c17; clear c17; obtain ⟨y392, hy392⟩ : ∃ y_ : List Int, y_ = (x5_1 ++ [x6_1]) := ⟨_, rfl⟩
      replace H : (spec_l8Loose.l0 k1 l0 false y392 (wrap64 (x6_1 + 1))) = some r := by first | (rw [hy392]; with_reducible exact H) | (have H2_ := (Option.bind_some _ _).symm.trans H; rw [hy392]; with_reducible exact H2_) | (have H2_ := (Option.bind_some _ _).symm.trans H; with_reducible exact H2_) | with_reducible exact H | (rw [hy392]; exact H) | exact H
      have Ny392 := ak hy392; clear hy392; have H' := ak H; clear H
      go_wp2_with (first | ((with_reducible refine gate_callee (f := 57) rfl ?_); refine goesL_ (some 19) rfl rfl Tryz.func57 (by kernel_rfl) rfl #[.slice A0 l0.length c0, .int .i64 x6_1] rfl aq ?_; (with_reducible refine (spec_l8Without.calls k1 _ _ l0 x6_1 t384 true _ ?side1 ?side2 A6.out).mono ?_); (case side1 => exact cq (Kd.C_below HR0.out HB.out)); (case side2 => exact HC0.out); rintro e w18 ⟨v386, rfl, ho0, hb⟩; refine ⟨_, rfl, ?_⟩; have n0_ := ak (Kd.R_below (rq HO_5) hb); have n1_ := ak (Kd.R_lower ho0 (below_size bq)); have n2_ := ak (below_step bq hb); clear HO_5; clear HB; have HO_5 := n0_; have HO387 := n1_; have HB := n2_; clear n0_ n1_ n2_; (try clear hb); (try clear ho0)) | ((with_reducible refine gate_builtin (b := .append) (xs := #[.tmp 32, .tmp 34]) rfl ?_); at_builtin; refine Kd.R_append (Kd.int .i64) (w0 := w) w.heap.size rfl (.tmp 32) (.tmp 34) 26 3 (.int .i64 0) 8 rfl Tryz.underlying26 info3 rfl (by decide) (by omega) u5 x5_1 x6_1 [.int .i64 x6_1] (fun _ => True) (fun _ => False) rfl rfl ?aP (fun _ hk => hk.elim) ?aF ?aO ?aB ?aS ?aL ?_; (case aP => exact rfl); (case aB => exact bq); (case aF => exact (fun _ _ => trivial)); (case aO => exact (rq HO_5)); (case aS => exact (below_size bq)); (case aL => have := LMc17.out; omega); intro v393 w19 ho hb hg hat; rw [← Ny392.out] at ho; have n0_ := ak (Kd.R_over' (rq HO387) (Kd.R_typed (rq HO_5)) (by decide) hg); have n1_ := ak (hb); have n2_ := ak (ho); clear HO387; clear HB; clear HO_5; have HO387 := n0_; have HB := n1_; have HO394 := n2_; clear n0_ n1_ n2_; clear ho hb hg hat))
      go_roundg k1
      case measure => have := HK1.out; omega
      case rel => exact ⟨(y392), (wrap64 (x6_1 + 1)), sq, H', ⟨by have := HK1.out; omega⟩, ⟨rq HO394⟩, ⟨bq⟩⟩
    ·replace c7 := Bool.eq_false_iff.mpr c7
     subst c7; rw [if_neg (show ¬ (false = true) by decide)] at H; have H' := ak H; clear H
     go_wp2_with (((with_reducible refine gate_callee (f := 57) rfl ?_); refine goesL_ (some 19) rfl rfl Tryz.func57 (by kernel_rfl) rfl #[.slice A0 l0.length c0, .int .i64 x6_1] rfl aq ?_; (with_reducible refine (spec_l8Without.calls k1 _ _ l0 x6_1 t384 false _ ?side1 ?side2 A6.out).mono ?_); (case side1 => exact cq (Kd.C_below HR0.out HB.out)); (case side2 => exact HC0.out); rintro e w20 ⟨v386, rfl, ho0, hb⟩; refine ⟨_, rfl, ?_⟩; have n0_ := ak (Kd.R_below (rq HO_5) hb); have n1_ := ak (Kd.R_lower ho0 (below_size bq)); have n2_ := ak (below_step bq hb); clear HO_5; clear HB; have HO_5 := n0_; have HO387 := n1_; have HB := n2_; clear n0_ n1_ n2_; (try clear hb); (try clear ho0)))
     go_roundg k1
     case measure => have := HK1.out; omega
     case rel => exact ⟨(x5_1), (wrap64 (x6_1 + 1)), sq, H', ⟨by have := HK1.out; omega⟩, ⟨rq HO_5⟩, ⟨bq⟩⟩
   ·rw [if_neg c5] at H
    have c5b0 := decide_eq_false c5; clear c5; obtain rfl := Option.some.inj H; go_wp2; go_ret; exact ⟨_, eq_, rq HO_5, bq⟩
/-! ### spec_LooseCells: function 7 -/
def spec_LooseCells.f (k : Nat) (l0 : List (S37)) : Option (List Int × Bool) := (spec_l8Body.f k l0).bind fun t395 => (if t395 = true then ((spec_l8Loose.f k l0 false).bind fun t396 => (some (t396, true))) else (some ((([] : List Int)), false)))
theorem spec_LooseCells.calls (k : Nat) (A0 : Option Addr) (c0 : Nat) (l0 : List (S37)) (r1 : List Int) (r2 : Bool) (w : World) (hr0 : Kd.C k37 w A0 l0.length l0) (hc0 : l0.length ≤ c0) (h : spec_LooseCells.f k l0 = some (r1, r2)) :
  Calls Tryz.prog 7 #[.slice A0 l0.length c0] w fun e w' => ∃ v0_ : Value, e = .returned (.tuple #[v0_, .bool r2]) ∧ Kd.R (Kd.int .i64) 3 w' w.heap.size (fun _ => True) v0_ r1 ∧ Below w.heap.size w w' := by
 have HR0 := ak hr0; have HC0 := ak hc0; clear hr0 hc0; have HB := ak (Below.refl w.heap.size w); have H : ((spec_l8Body.f k l0).bind fun t395 => (if t395 = true then ((spec_l8Loose.f k l0 false).bind fun t396 => (some (t396, true))) else (some ((([] : List Int)), false)))) = some (r1, r2) := h; clear h; obtain ⟨t395, A20, H⟩ := Option.bind_eq_some_iff.mp H
 have A2 := ak A20; clear A20
 by_cases c3 : t395 = true
 ·subst c3
  rw [if_pos rfl] at H; obtain ⟨t396, A40, H⟩ := Option.bind_eq_some_iff.mp H
  have A4 := ak A40; clear A40; simp only [Option.some.injEq, Prod.mk.injEq] at H; obtain ⟨rfl, rfl⟩ := H
  go_enter Tryz.func7, Tryz.ntmps7
  go_wp2_with (first | ((with_reducible refine gate_callee (f := 24) rfl ?_); refine goesL_ (some 5) rfl rfl Tryz.func24 (by kernel_rfl) rfl #[.slice A0 l0.length c0] rfl aq ?_; (with_reducible refine (spec_l8Body.calls k _ _ l0 true _ ?side1 ?side2 A2.out).mono ?_); (case side1 => exact cq HR0.out); (case side2 => exact HC0.out); rintro e w5 ⟨rfl, hb⟩; refine ⟨_, rfl, ?_⟩; have n0_ := ak (below_step bq hb); clear HB; have HB := n0_; clear n0_; (try clear hb)) | ((with_reducible refine gate_callee (f := 25) rfl ?_); refine goesL_ (some 9) rfl rfl Tryz.func25 (by kernel_rfl) rfl #[.slice A0 l0.length c0, .bool false] rfl aq ?_; (with_reducible refine (spec_l8Loose.calls k _ _ l0 false t396 _ ?side1 ?side2 A4.out).mono ?_); (case side1 => exact cq (Kd.C_below HR0.out HB.out)); (case side2 => exact HC0.out); rintro e w6 ⟨v397, rfl, ho0, hb⟩; refine ⟨_, rfl, ?_⟩; have n0_ := ak (Kd.R_lower ho0 (below_size bq)); have n1_ := ak (below_step bq hb); clear HB; have HO398 := n0_; have HB := n1_; clear n0_ n1_; (try clear hb); (try clear ho0)))
  go_ret2
  exact ⟨_, eq_, rq HO398, bq⟩
 ·replace c3 := Bool.eq_false_iff.mpr c3
  subst c3; rw [if_neg (show ¬ (false = true) by decide)] at H; obtain ⟨y399, hy399⟩ : ∃ y_ : List Int, y_ = (([] : List Int)) := ⟨_, rfl⟩
  replace H : (some (y399, false)) = some (r1, r2) := by first | (rw [hy399]; with_reducible exact H) | (have H2_ := (Option.bind_some _ _).symm.trans H; rw [hy399]; with_reducible exact H2_) | (have H2_ := (Option.bind_some _ _).symm.trans H; with_reducible exact H2_) | with_reducible exact H | (rw [hy399]; exact H) | exact H
  have Ny399 := ak hy399; clear hy399; simp only [Option.some.injEq, Prod.mk.injEq] at H; obtain ⟨rfl, rfl⟩ := H
  go_enter Tryz.func7, Tryz.ntmps7
  go_wp2_with (first | ((with_reducible refine gate_callee (f := 24) rfl ?_); refine goesL_ (some 5) rfl rfl Tryz.func24 (by kernel_rfl) rfl #[.slice A0 l0.length c0] rfl aq ?_; (with_reducible refine (spec_l8Body.calls k _ _ l0 false _ ?side1 ?side2 A2.out).mono ?_); (case side1 => exact cq HR0.out); (case side2 => exact HC0.out); rintro e w7 ⟨rfl, hb⟩; refine ⟨_, rfl, ?_⟩; have n0_ := ak (below_step bq hb); clear HB; have HB := n0_; clear n0_; (try clear hb)) | ((with_reducible refine gate_dst (N := 7) rfl ?_); refine Kd.R_lit (Kd.int .i64) _ 3 ?hg (N := 7) ?hd (xs := ([] : List Int)) (inner := []) (ok := fun _ => True) (okp := fun _ => True) ?hr ?hp (fun _ hk => hk) trivial (Below.refl _ _) (Nat.le_refl _) (by simp) ?_; (case hd => rfl); (case hg => rfl); (case hr => (go_simp; done)); (case hp => exact (Reps.none _ _)); intro v400 w8 ho9 hb hg_ hnew_; clear hg_ hnew_; (rw [← Ny399.out] at ho9); have n0_ := ak (Kd.R_lower ho9 (below_size bq)); have n1_ := ak (below_step bq hb); clear HB; have HO401 := n0_; have HB := n1_; clear n0_ n1_; clear hb ho9))
  go_ret2
  exact ⟨_, eq_, rq HO401, bq⟩
/-! ### laws_rInts: function 9 -/
def laws_rInts.l0 : Nat → List Int → List Int → Int → Option (Bool)
 | 0, _, _, _ => none
 | k + 1, x0, x1, x5 => if x5 < (x0.length : Int) then (if 0 ≤ x5 then (if x5 < (x1.length : Int) then (if (rd x0 x5) = (rd x1 x5) then (laws_rInts.l0 k x0 x1 (wrap64 (x5 + 1))) else (some false)) else (none)) else (none)) else (some true)
def laws_rInts.f (k : Nat) (l0 : List Int) (l1 : List Int) : Option (Bool) := if (l0.length : Int) = (l1.length : Int) then (laws_rInts.l0 k l0 l1 0) else (some false)
theorem laws_rInts.calls (k : Nat) (A0 : Option Addr) (c0 : Nat) (l0 : List Int) (A1 : Option Addr) (c1 : Nat) (l1 : List Int) (r : Bool) (w : World) (hr0 : Kd.C (Kd.int .i64) w A0 l0.length l0) (hc0 : l0.length ≤ c0) (hr1 : Kd.C (Kd.int .i64) w A1 l1.length l1) (hc1 : l1.length ≤ c1) (h : laws_rInts.f k l0 l1 = some r) :
  Calls Tryz.prog 9 #[.slice A0 l0.length c0, .slice A1 l1.length c1] w fun e w' => e = .returned (.bool r) ∧ Drawn0 w w' := by
 have HR0 := ak hr0; have HC0 := ak hc0; clear hr0 hc0; have HR1 := ak hr1; have HC1 := ak hc1; clear hr1 hc1; have H : (if (l0.length : Int) = (l1.length : Int) then (laws_rInts.l0 k l0 l1 0) else (some false)) = some r := h; clear h
 by_cases c3 : (l0.length : Int) = (l1.length : Int)
 ·rw [if_pos c3] at H
  have c3b0 : ((l0.length : Int) == (l1.length : Int)) = true := beq_iff_eq.mpr c3; have c3b1 : ((l0.length : Int) != (l1.length : Int)) = false := bne_eq_false_iff_eq.mpr c3
  have c3b2 : (l0.length == l1.length) = true := by first | simpa using c3 | (simp at c3 ⊢; omega)
  clear c3; have H' := ak H; clear H
  go_enter Tryz.func9, Tryz.ntmps9
  go_wp2
  repeat (go_quiet (fail); try go_wp2)
  go_loopg [5] k (fun kq v5 w' => ∃ (x5_1 : Int), v5 = .int .i64 x5_1 ∧ Aside0 (laws_rInts.l0 kq l0 l1 x5_1 = some r) ∧ Aside0 (kq ≤ k) ∧ Drawn0 w w')
  case atStart => exact ⟨(0), sq, H', ⟨Nat.le_refl _⟩, by repeat (exact Drawn0.refl _)⟩
  case round =>
   clear H'; (try clear c3b0); (try clear c3b1); (try clear c3b2); obtain ⟨x5_1, rfl, HA, HK1, ⟨m1, rfl⟩⟩ := hrel
   cases gk with
   | zero => exact absurd HA.out (by simp [laws_rInts.l0])
   | succ k1 =>
    have H := HA.out; clear HA; simp only [laws_rInts.l0] at H
    by_cases c4 : x5_1 < (l0.length : Int)
    ·rw [if_pos c4] at H
     have c4b0 := decide_eq_true c4; clear c4
     revert H; refine ig_ fun c5 H => ?_
     have c5b0 := decide_eq_true c5; clear c5
     revert H; refine ig_ fun c6 H => ?_
     have c6b0 := decide_eq_true c6; clear c6
     by_cases c7 : (rd l0 x5_1) = (rd l1 x5_1)
     ·rw [if_pos c7] at H
      have c7b0 : ((rd l0 x5_1) == (rd l1 x5_1)) = true := beq_iff_eq.mpr c7; have c7b1 : ((rd l0 x5_1) != (rd l1 x5_1)) = false := bne_eq_false_iff_eq.mpr c7; clear c7; have H' := ak H; clear H; have p402 : 0 ≤ (x5_1 : Int) := dq; have q402 : x5_1 < (l0.length : Int) := dq; obtain ⟨ad402, e402, hx402_0⟩ := Kd.at_int HR0.out x5_1 p402 q402; cases e402; replace p402 := eq_true p402; replace q402 := eq_true q402; have p403 : 0 ≤ (x5_1 : Int) := dq; have q403 : x5_1 < (l1.length : Int) := dq; obtain ⟨ad403, e403, hx403_0⟩ := Kd.at_int HR1.out x5_1 p403 q403; cases e403; replace p403 := eq_true p403; replace q403 := eq_true q403; go_wp2
      repeat (go_quiet (fail); try go_wp2)
      go_roundg k1
      case measure => have := HK1.out; omega
      case rel => exact ⟨(wrap64 (x5_1 + 1)), sq, H', ⟨by have := HK1.out; omega⟩, by repeat (first | exact Drawn0.refl _ | apply Drawn0.step)⟩
     ·rw [if_neg c7] at H
      have c7b0 : ((rd l0 x5_1) == (rd l1 x5_1)) = false := beq_eq_false_iff_ne.mpr c7; have c7b1 : ((rd l0 x5_1) != (rd l1 x5_1)) = true := bne_iff_ne.mpr c7; obtain rfl := Option.some.inj H; have p402 : 0 ≤ (x5_1 : Int) := dq; have q402 : x5_1 < (l0.length : Int) := dq; obtain ⟨ad402, e402, hx402_0⟩ := Kd.at_int HR0.out x5_1 p402 q402; cases e402; replace p402 := eq_true p402; replace q402 := eq_true q402; have p403 : 0 ≤ (x5_1 : Int) := dq; have q403 : x5_1 < (l1.length : Int) := dq; obtain ⟨ad403, e403, hx403_0⟩ := Kd.at_int HR1.out x5_1 p403 q403; cases e403; replace p403 := eq_true p403; replace q403 := eq_true q403; go_wp2
      repeat (go_quiet (fail); try go_wp2)
      go_ret; exact ⟨sq, by repeat (first | exact Drawn0.refl _ | apply Drawn0.step)⟩
    ·rw [if_neg c4] at H
     have c4b0 := decide_eq_false c4; clear c4; obtain rfl := Option.some.inj H; go_wp2
     repeat (go_quiet (fail); try go_wp2)
     go_ret; exact ⟨sq, by repeat (first | exact Drawn0.refl _ | apply Drawn0.step)⟩
 ·rw [if_neg c3] at H
  have c3b0 : ((l0.length : Int) == (l1.length : Int)) = false := beq_eq_false_iff_ne.mpr c3; have c3b1 : ((l0.length : Int) != (l1.length : Int)) = true := bne_iff_ne.mpr c3
  have c3b2 : (l0.length == l1.length) = false := by first | simpa using c3 | (simp at c3 ⊢; omega)
  obtain rfl := Option.some.inj H
  go_enter Tryz.func9, Tryz.ntmps9
  go_wp2
  repeat (go_quiet (fail); try go_wp2)
  go_ret; exact ⟨sq, by repeat (exact Drawn0.refl _)⟩
/-! ### impl_groundOf: function 60 -/
def impl_groundOf.l0 : Nat → Int → Int → List (S37) → Int → Int → Option (Int × Int)
 | 0, _, _, _, _, _ => none
 | k + 1, x4, x5, x8, x9, x10 => if x10 < x9 then (if 0 ≤ x10 then (if x10 < (x8.length : Int) then (if ((rd_T37 x8 x10).f1) = 0 then (impl_groundOf.l0 k (mn x4 ((rd_T37 x8 x10).f0)) (mx x5 (wrap64 (((rd_T37 x8 x10).f0) + 1))) x8 x9 (wrap64 (x10 + 1))) else (impl_groundOf.l0 k x4 x5 x8 x9 (wrap64 (x10 + 1)))) else (none)) else (none)) else (some (x4, x5))
def impl_groundOf.f (k : Nat) (l0 : List (S37)) : Option (Int × Int) := impl_groundOf.l0 k 12 0 l0 (l0.length : Int) 0
theorem impl_groundOf.calls (k : Nat) (A0 : Option Addr) (c0 : Nat) (l0 : List (S37)) (r1 : Int) (r2 : Int) (w : World) (hr0 : Kd.C k37 w A0 l0.length l0) (hc0 : l0.length ≤ c0) (h : impl_groundOf.f k l0 = some (r1, r2)) :
  Calls Tryz.prog 60 #[.slice A0 l0.length c0] w fun e w' => e = .returned (.tuple #[.int .i64 r1, .int .i64 r2]) ∧ Below w.heap.size w w' := by
 have hu37 := Tryz.underlying37; have HR0 := ak hr0; have HC0 := ak hc0; clear hr0 hc0; have HB := ak (Below.refl w.heap.size w); have H : (impl_groundOf.l0 k 12 0 l0 (l0.length : Int) 0) = some (r1, r2) := h; clear h; have H' := ak H; clear H
 go_enter Tryz.func60, Tryz.ntmps60
 go_wp2
 repeat (go_quiet (fail); try go_wp2)
 go_loopg [4, 5, 10] k (fun kq v4 v5 v10 w' => ∃ (x4_1 : Int) (x5_1 : Int) (x10_1 : Int), v4 = .int .i64 x4_1 ∧ v5 = .int .i64 x5_1 ∧ v10 = .int .i64 x10_1 ∧ Aside0 (impl_groundOf.l0 kq x4_1 x5_1 l0 (l0.length : Int) x10_1 = some (r1, r2)) ∧ Aside0 (kq ≤ k) ∧ Aside0 (Below w.heap.size w w'))
 case atStart => exact ⟨(12), (0), (0), sq, sq, sq, H', ⟨Nat.le_refl _⟩, ⟨bq⟩⟩
 case round =>
  clear H'; obtain ⟨x4_1, x5_1, x10_1, rfl, rfl, rfl, HA, HK1, HB⟩ := hrel
  cases gk with
  | zero => exact absurd HA.out (by simp [impl_groundOf.l0])
  | succ k1 =>
   have H := HA.out; clear HA; simp only [impl_groundOf.l0] at H
   by_cases c2 : x10_1 < (l0.length : Int)
   ·rw [if_pos c2] at H
    have c2b0 := decide_eq_true c2; clear c2
    revert H; refine ig_ fun c3 H => ?_
    have c3b0 := decide_eq_true c3; clear c3
    revert H; refine ig_ fun c4 H => ?_
    have c4b0 := decide_eq_true c4; clear c4
    by_cases c5 : ((rd_T37 l0 x10_1).f1) = 0
    ·rw [if_pos c5] at H
     have c5b0 : (((rd_T37 l0 x10_1).f1) == 0) = true := beq_iff_eq.mpr c5; have c5b1 : (((rd_T37 l0 x10_1).f1) != 0) = false := bne_eq_false_iff_eq.mpr c5; clear c5; obtain ⟨ji6, hji6⟩ : ∃ j_ : Int, (mn x4_1 ((rd_T37 l0 x10_1).f0)) = j_ := ⟨_, rfl⟩
     (rw [hji6] at H)
     have hji6_ : (if ((rd_T37 l0 x10_1).f0) < x4_1 then ((rd_T37 l0 x10_1).f0) else x4_1) = ji6 := hji6; obtain ⟨ji7, hji7⟩ : ∃ j_ : Int, (mx x5_1 (wrap64 (((rd_T37 l0 x10_1).f0) + 1))) = j_ := ⟨_, rfl⟩
     (rw [hji7] at H)
     have hji7_ : (if x5_1 < (wrap64 (((rd_T37 l0 x10_1).f0) + 1)) then (wrap64 (((rd_T37 l0 x10_1).f0) + 1)) else x5_1) = ji7 := hji7; have H' := ak H; clear H; have p404 : 0 ≤ (x10_1 : Int) := dq; have q404 : x10_1 < (l0.length : Int) := dq; obtain ⟨ad404, e404, hx404_0, hx404_1⟩ := at_T37 HR0.out x10_1 p404 q404; cases e404; replace hx404_0 := hb_ HB hx404_0; replace hx404_1 := hb_ HB hx404_1; replace p404 := eq_true p404; replace q404 := eq_true q404
     go_wp2_with (((with_reducible refine gate_dst (N := 7) rfl ?_); refine box_event ?hg (N := 7) ?hd (cs := #[.int .i64 0, .int .i64 0]) (t := 37) ?hr ?_; (case hd => rfl); (case hg => rfl); (case hr => (go_simp; done)); intro gb405 hg w8 hbox hb; have n0_ := ak (below_step bq hb); have n1_ := ak (hbox); have n2_ := ak ((by rw [hg]; exact (below_size bq) : w.heap.size ≤ gb405)); have n3_ := ak ((by rw [hg]; exact (below_size bq) : w.heap.size ≤ gb405)); clear HB; have HB := n0_; have BK405 := n1_; have GW405 := n2_; have GE405 := n3_; clear n0_ n1_ n2_ n3_; clear hb hbox hg; have hcz9_0 : w8.cell? ⟨gb405, 0, none⟩ = some (.int .i64 0) := (blk_cell BK405.out 0).trans rfl; have hcz9_1 : w8.cell? ⟨gb405, 1, none⟩ = some (.int .i64 0) := (blk_cell BK405.out 1).trans rfl; have hfz9_0 := blk_frozen BK405.out 0; have hfz9_1 := blk_frozen BK405.out 1))
     repeat (go_quiet (fail); try go_wp2_with (fail))
     go_roundg k1
     case measure => have := HK1.out; omega
     case rel => exact ⟨(ji6), (ji7), (wrap64 (x10_1 + 1)), (by rfl), (by rfl), sq, H', ⟨by have := HK1.out; omega⟩, ⟨bs⟩⟩
    ·rw [if_neg c5] at H
     have c5b0 : (((rd_T37 l0 x10_1).f1) == 0) = false := beq_eq_false_iff_ne.mpr c5; have c5b1 : (((rd_T37 l0 x10_1).f1) != 0) = true := bne_iff_ne.mpr c5; have H' := ak H; clear H; have p404 : 0 ≤ (x10_1 : Int) := dq; have q404 : x10_1 < (l0.length : Int) := dq; obtain ⟨ad404, e404, hx404_0, hx404_1⟩ := at_T37 HR0.out x10_1 p404 q404; cases e404; replace hx404_0 := hb_ HB hx404_0; replace hx404_1 := hb_ HB hx404_1; replace p404 := eq_true p404; replace q404 := eq_true q404
     go_wp2_with (((with_reducible refine gate_dst (N := 7) rfl ?_); refine box_event ?hg (N := 7) ?hd (cs := #[.int .i64 0, .int .i64 0]) (t := 37) ?hr ?_; (case hd => rfl); (case hg => rfl); (case hr => (go_simp; done)); intro gb405 hg w10 hbox hb; have n0_ := ak (below_step bq hb); have n1_ := ak (hbox); have n2_ := ak ((by rw [hg]; exact (below_size bq) : w.heap.size ≤ gb405)); have n3_ := ak ((by rw [hg]; exact (below_size bq) : w.heap.size ≤ gb405)); clear HB; have HB := n0_; have BK405 := n1_; have GW405 := n2_; have GE405 := n3_; clear n0_ n1_ n2_ n3_; clear hb hbox hg; have hcz11_0 : w10.cell? ⟨gb405, 0, none⟩ = some (.int .i64 0) := (blk_cell BK405.out 0).trans rfl; have hcz11_1 : w10.cell? ⟨gb405, 1, none⟩ = some (.int .i64 0) := (blk_cell BK405.out 1).trans rfl; have hfz11_0 := blk_frozen BK405.out 0; have hfz11_1 := blk_frozen BK405.out 1))
     repeat (go_quiet (fail); try go_wp2_with (fail))
     go_roundg k1
     case measure => have := HK1.out; omega
     case rel => exact ⟨(x4_1), (x5_1), (wrap64 (x10_1 + 1)), sq, sq, sq, H', ⟨by have := HK1.out; omega⟩, ⟨bs⟩⟩
   ·rw [if_neg c2] at H
    have c2b0 := decide_eq_false c2; clear c2; simp only [Option.some.injEq, Prod.mk.injEq] at H; obtain ⟨rfl, rfl⟩ := H; go_wp2
    repeat (go_quiet (fail); try go_wp2)
    go_ret2
    exact ⟨eq_, bq⟩
/-! ### impl_middles_0: function 61 -/
def impl_middles_0.l0 : Nat → Int → List (S37) → Int → Int → Option (Int)
 | 0, _, _, _, _ => none
 | k + 1, x5, x8, x9, x10 => if x10 < x9 then (if 0 ≤ x10 then (if x10 < (x8.length : Int) then (impl_middles_0.l0 k (wrap64 (x5 + (wrap64 ((wrap64 (2 * ((rd_T37 x8 x10).f0))) + 1)))) x8 x9 (wrap64 (x10 + 1))) else (none)) else (none)) else (some x5)
def impl_middles_0.f (k : Nat) (l0 : List (S37)) : Option (Int) := impl_middles_0.l0 k 0 l0 (l0.length : Int) 0
theorem impl_middles_0.calls (k : Nat) (A0 : Option Addr) (c0 : Nat) (l0 : List (S37)) (r : Int) (w : World) (hr0 : Kd.C k37 w A0 l0.length l0) (hc0 : l0.length ≤ c0) (h : impl_middles_0.f k l0 = some r) :
  Calls Tryz.prog 61 #[.slice A0 l0.length c0, .int .i64 0] w fun e w' => e = .returned (.int .i64 r) ∧ Below w.heap.size w w' := by
 have hu37 := Tryz.underlying37; have HR0 := ak hr0; have HC0 := ak hc0; clear hr0 hc0; have HB := ak (Below.refl w.heap.size w); have H : (impl_middles_0.l0 k 0 l0 (l0.length : Int) 0) = some r := h; clear h; have H' := ak H; clear H
 go_enter Tryz.func61, Tryz.ntmps61
 go_wp2
 go_loopg [5, 10] k (fun kq v5 v10 w' => ∃ (x5_1 : Int) (x10_1 : Int), v5 = .int .i64 x5_1 ∧ v10 = .int .i64 x10_1 ∧ Aside0 (impl_middles_0.l0 kq x5_1 l0 (l0.length : Int) x10_1 = some r) ∧ Aside0 (kq ≤ k) ∧ Aside0 (Below w.heap.size w w'))
 case atStart => exact ⟨(0), (0), sq, sq, H', ⟨Nat.le_refl _⟩, ⟨bq⟩⟩
 case round =>
  clear H'; obtain ⟨x5_1, x10_1, rfl, rfl, HA, HK1, HB⟩ := hrel
  cases gk with
  | zero => exact absurd HA.out (by simp [impl_middles_0.l0])
  | succ k1 =>
   have H := HA.out; clear HA; simp only [impl_middles_0.l0] at H
   by_cases c2 : x10_1 < (l0.length : Int)
   ·rw [if_pos c2] at H
    have c2b0 := decide_eq_true c2; clear c2
    revert H; refine ig_ fun c3 H => ?_
    have c3b0 := decide_eq_true c3; clear c3
    revert H; refine ig_ fun c4 H => ?_
    have c4b0 := decide_eq_true c4; clear c4; have H' := ak H; clear H; have p406 : 0 ≤ (x10_1 : Int) := dq; have q406 : x10_1 < (l0.length : Int) := dq; obtain ⟨ad406, e406, hx406_0, hx406_1⟩ := at_T37 HR0.out x10_1 p406 q406; cases e406; replace hx406_0 := hb_ HB hx406_0; replace hx406_1 := hb_ HB hx406_1; replace p406 := eq_true p406; replace q406 := eq_true q406
    go_wp2_with (((with_reducible refine gate_dst (N := 7) rfl ?_); refine box_event ?hg (N := 7) ?hd (cs := #[.int .i64 0, .int .i64 0]) (t := 37) ?hr ?_; (case hd => rfl); (case hg => rfl); (case hr => (go_simp; done)); intro gb407 hg w5 hbox hb; have n0_ := ak (below_step bq hb); have n1_ := ak (hbox); have n2_ := ak ((by rw [hg]; exact (below_size bq) : w.heap.size ≤ gb407)); have n3_ := ak ((by rw [hg]; exact (below_size bq) : w.heap.size ≤ gb407)); clear HB; have HB := n0_; have BK407 := n1_; have GW407 := n2_; have GE407 := n3_; clear n0_ n1_ n2_ n3_; clear hb hbox hg; have hcz6_0 : w5.cell? ⟨gb407, 0, none⟩ = some (.int .i64 0) := (blk_cell BK407.out 0).trans rfl; have hcz6_1 : w5.cell? ⟨gb407, 1, none⟩ = some (.int .i64 0) := (blk_cell BK407.out 1).trans rfl; have hfz6_0 := blk_frozen BK407.out 0; have hfz6_1 := blk_frozen BK407.out 1))
    go_roundg k1
    case measure => have := HK1.out; omega
    case rel => exact ⟨(wrap64 (x5_1 + (wrap64 ((wrap64 (2 * ((rd_T37 l0 x10_1).f0))) + 1)))), (wrap64 (x10_1 + 1)), sq, sq, H', ⟨by have := HK1.out; omega⟩, ⟨bs⟩⟩
   ·rw [if_neg c2] at H
    have c2b0 := decide_eq_false c2; clear c2; obtain rfl := Option.some.inj H; go_wp2; go_ret; exact ⟨eq_, bq⟩
/-! ### impl_bodySide: function 32 -/
def impl_bodySide.f (k : Nat) (l0 : List (S37)) : Option (Int) := (impl_groundOf.f k l0).bind fun bt408 => ((impl_middles_0.f k l0).bind fun t410 => (if t410 < (wrap64 (bt408.1 * (wrap64 (2 * (l0.length : Int))))) then (some (-1)) else (if t410 > (wrap64 (bt408.2 * (wrap64 (2 * (l0.length : Int))))) then (some 1) else (some 0))))
theorem impl_bodySide.calls (k : Nat) (A0 : Option Addr) (c0 : Nat) (l0 : List (S37)) (r : Int) (w : World) (hr0 : Kd.C k37 w A0 l0.length l0) (hc0 : l0.length ≤ c0) (h : impl_bodySide.f k l0 = some r) :
  Calls Tryz.prog 32 #[.slice A0 l0.length c0] w fun e w' => e = .returned (.int .i64 r) ∧ Below w.heap.size w w' := by
 have HR0 := ak hr0; have HC0 := ak hc0; clear hr0 hc0; have HB := ak (Below.refl w.heap.size w); have H : ((impl_groundOf.f k l0).bind fun bt408 => ((impl_middles_0.f k l0).bind fun t410 => (if t410 < (wrap64 (bt408.1 * (wrap64 (2 * (l0.length : Int))))) then (some (-1)) else (if t410 > (wrap64 (bt408.2 * (wrap64 (2 * (l0.length : Int))))) then (some 1) else (some 0))))) = some r := h; clear h; obtain ⟨⟨t408, t409⟩, A20, H⟩ := Option.bind_eq_some_iff.mp H
 (try dsimp only at H)
 have A2 := ak A20; clear A20; obtain ⟨t410, A30, H⟩ := Option.bind_eq_some_iff.mp H
 have A3 := ak A30; clear A30
 by_cases c4 : t410 < (wrap64 (t408 * (wrap64 (2 * (l0.length : Int)))))
 ·rw [if_pos c4] at H
  have c4b0 := decide_eq_true c4; clear c4; obtain rfl := Option.some.inj H
  go_enter Tryz.func32, Tryz.ntmps32
  go_wp2_with (first | ((with_reducible refine gate_callee (f := 60) rfl ?_); refine goesL_ (some 9) rfl rfl Tryz.func60 (by kernel_rfl) rfl #[.slice A0 l0.length c0] rfl aq ?_; (with_reducible refine (impl_groundOf.calls k _ _ l0 t408 t409 _ ?side1 ?side2 A2.out).mono ?_); (case side1 => exact cq HR0.out); (case side2 => exact HC0.out); rintro e w5 ⟨rfl, hb⟩; refine ⟨_, rfl, ?_⟩; have n0_ := ak (below_step bq hb); clear HB; have HB := n0_; clear n0_; (try clear hb)) | ((with_reducible refine gate_callee (f := 61) rfl ?_); refine goesL_ (some 13) rfl rfl Tryz.func61 (by kernel_rfl) rfl #[.slice A0 l0.length c0, .int .i64 0] rfl aq ?_; (with_reducible refine (impl_middles_0.calls k _ _ l0 t410 _ ?side1 ?side2 A3.out).mono ?_); (case side1 => exact cq (Kd.C_below HR0.out HB.out)); (case side2 => exact HC0.out); rintro e w6 ⟨rfl, hb⟩; refine ⟨_, rfl, ?_⟩; have n0_ := ak (below_step bq hb); clear HB; have HB := n0_; clear n0_; (try clear hb)))
  go_ret; exact ⟨eq_, bq⟩
 ·rw [if_neg c4] at H
  have c4b0 := decide_eq_false c4; clear c4
  by_cases c7 : t410 > (wrap64 (t409 * (wrap64 (2 * (l0.length : Int)))))
  ·rw [if_pos c7] at H
   have c7b0 : decide ((wrap64 (t409 * (wrap64 (2 * (l0.length : Int))))) < t410) = true := decide_eq_true c7; clear c7; obtain rfl := Option.some.inj H
   go_enter Tryz.func32, Tryz.ntmps32
   go_wp2_with (first | ((with_reducible refine gate_callee (f := 60) rfl ?_); refine goesL_ (some 9) rfl rfl Tryz.func60 (by kernel_rfl) rfl #[.slice A0 l0.length c0] rfl aq ?_; (with_reducible refine (impl_groundOf.calls k _ _ l0 t408 t409 _ ?side1 ?side2 A2.out).mono ?_); (case side1 => exact cq HR0.out); (case side2 => exact HC0.out); rintro e w8 ⟨rfl, hb⟩; refine ⟨_, rfl, ?_⟩; have n0_ := ak (below_step bq hb); clear HB; have HB := n0_; clear n0_; (try clear hb)) | ((with_reducible refine gate_callee (f := 61) rfl ?_); refine goesL_ (some 13) rfl rfl Tryz.func61 (by kernel_rfl) rfl #[.slice A0 l0.length c0, .int .i64 0] rfl aq ?_; (with_reducible refine (impl_middles_0.calls k _ _ l0 t410 _ ?side1 ?side2 A3.out).mono ?_); (case side1 => exact cq (Kd.C_below HR0.out HB.out)); (case side2 => exact HC0.out); rintro e w9 ⟨rfl, hb⟩; refine ⟨_, rfl, ?_⟩; have n0_ := ak (below_step bq hb); clear HB; have HB := n0_; clear n0_; (try clear hb)))
   go_ret; exact ⟨eq_, bq⟩
  ·rw [if_neg c7] at H
   have c7b0 : decide ((wrap64 (t409 * (wrap64 (2 * (l0.length : Int))))) < t410) = false := decide_eq_false c7; clear c7; obtain rfl := Option.some.inj H
   go_enter Tryz.func32, Tryz.ntmps32
   go_wp2_with (first | ((with_reducible refine gate_callee (f := 60) rfl ?_); refine goesL_ (some 9) rfl rfl Tryz.func60 (by kernel_rfl) rfl #[.slice A0 l0.length c0] rfl aq ?_; (with_reducible refine (impl_groundOf.calls k _ _ l0 t408 t409 _ ?side1 ?side2 A2.out).mono ?_); (case side1 => exact cq HR0.out); (case side2 => exact HC0.out); rintro e w10 ⟨rfl, hb⟩; refine ⟨_, rfl, ?_⟩; have n0_ := ak (below_step bq hb); clear HB; have HB := n0_; clear n0_; (try clear hb)) | ((with_reducible refine gate_callee (f := 61) rfl ?_); refine goesL_ (some 13) rfl rfl Tryz.func61 (by kernel_rfl) rfl #[.slice A0 l0.length c0, .int .i64 0] rfl aq ?_; (with_reducible refine (impl_middles_0.calls k _ _ l0 t410 _ ?side1 ?side2 A3.out).mono ?_); (case side1 => exact cq (Kd.C_below HR0.out HB.out)); (case side2 => exact HC0.out); rintro e w11 ⟨rfl, hb⟩; refine ⟨_, rfl, ?_⟩; have n0_ := ak (below_step bq hb); clear HB; have HB := n0_; clear n0_; (try clear hb)))
   go_ret; exact ⟨eq_, bq⟩
/-! ### impl_StandLoose_1: function 31, by hand -/
/-- Whether the closure says that a place goes out. -/
def impl_StandLoose_1.f (g : List (S37)) (k : Nat) (a0 : Int) : Option Bool := (impl_without.f k g a0).bind fun b => (impl_bodySide.f k b).bind fun s => some (s != 0)
theorem impl_StandLoose_1.calls (g : List (S37)) (pc : Addr) (k : Nat) (a0 : Int) (r : Bool) (w : World) (hcap : CapR w pc g) (h : impl_StandLoose_1.f g k a0 = some r) :
  Calls Tryz.prog 31 #[.int .i64 a0, .pointer (some pc)] w fun e w' => e = .returned (.bool r) ∧ Below w.heap.size w w' := by
 obtain ⟨A, c, hx, hc, hC⟩ := hcap; obtain ⟨b, A1_, h⟩ := Option.bind_eq_some_iff.mp h; obtain ⟨s, A2_, h⟩ := Option.bind_eq_some_iff.mp h; obtain rfl := Option.some.inj h; have A1 := ak A1_; have A2 := ak A2_; have HR := ak hC; have HC := ak hc; clear A1_ A2_ hC hc h
 go_enter Tryz.func31, Tryz.ntmps31
 go_wp2_with (first | (go_at_call 23; refine (impl_without.calls k _ _ g a0 b _ HR.out HC.out A1.out).mono ?_; rintro e w1 ⟨v1, rfl, ho, hb⟩; obtain ⟨B1, d1, rfl⟩ := Kd.R_slice ho; have HO1 := ak ho; have HB1 := ak hb; clear ho hb) | (go_at_call 32; refine (impl_bodySide.calls k _ _ b s _ (Kd.R_reads' HO1.out).2.2 (Kd.R_reads' HO1.out).2.1 A2.out).mono ?_; rintro e w2 ⟨rfl, hd⟩; have HD2 := ak hd; clear hd))
 go_ret; exact ⟨sq, below_step HB1.out (by exact HD2.out)⟩
/-! ### slices_IndexFunc_StandLoose_1: function 59 -/
def slices_IndexFunc_StandLoose_1.l0 (g : List (S37)) : Nat → List Int → Int → Int → Option (Int)
 | 0, _, _, _ => none
 | k + 1, x0, x7, x8 => if x8 < x7 then (if 0 ≤ x8 then (if x8 < (x0.length : Int) then ((impl_StandLoose_1.f g k (rd x0 x8)).bind fun t412 => (if t412 = true then (some x8) else (slices_IndexFunc_StandLoose_1.l0 g k x0 x7 (wrap64 (x8 + 1))))) else (none)) else (none)) else (some (-1))
def slices_IndexFunc_StandLoose_1.f (g : List (S37)) (k : Nat) (l0 : List Int) : Option (Int) := slices_IndexFunc_StandLoose_1.l0 g k l0 (l0.length : Int) 0
theorem slices_IndexFunc_StandLoose_1.calls (g : List (S37)) (pc : Addr) (k : Nat) (A0 : Option Addr) (c0 : Nat) (l0 : List Int) (r : Int) (w : World) (hr0 : Kd.C (Kd.int .i64) w A0 l0.length l0) (hc0 : l0.length ≤ c0) (hcap : CapR w pc g) (h : slices_IndexFunc_StandLoose_1.f g k l0 = some r) :
  Calls Tryz.prog 59 #[.slice A0 l0.length c0, .func (.func 31) #[] #[.pointer (some pc)]] w fun e w' => e = .returned (.int .i64 r) ∧ Below w.heap.size w w' := by
 have HR0 := ak hr0; have HC0 := ak hc0; clear hr0 hc0; have HB := ak (Below.refl w.heap.size w); have H : (slices_IndexFunc_StandLoose_1.l0 g k l0 (l0.length : Int) 0) = some r := h; clear h; have H' := ak H; clear H
 go_enter Tryz.func59, Tryz.ntmps59
 go_wp2
 go_loopg [8] k (fun kq v8 w' => ∃ (x8_1 : Int), v8 = .int .i64 x8_1 ∧ Aside0 (slices_IndexFunc_StandLoose_1.l0 g kq l0 (l0.length : Int) x8_1 = some r) ∧ Aside0 (kq ≤ k) ∧ Aside0 (Below w.heap.size w w'))
 case atStart => exact ⟨(0), sq, H', ⟨Nat.le_refl _⟩, ⟨bq⟩⟩
 case round =>
  clear H'; obtain ⟨x8_1, rfl, HA, HK1, HB⟩ := hrel
  cases gk with
  | zero => exact absurd HA.out (by simp [slices_IndexFunc_StandLoose_1.l0])
  | succ k1 =>
   have H := HA.out; clear HA; simp only [slices_IndexFunc_StandLoose_1.l0] at H
   by_cases c2 : x8_1 < (l0.length : Int)
   ·rw [if_pos c2] at H
    have c2b0 := decide_eq_true c2; clear c2
    revert H; refine ig_ fun c3 H => ?_
    have c3b0 := decide_eq_true c3; clear c3
    revert H; refine ig_ fun c4 H => ?_
    have c4b0 := decide_eq_true c4; clear c4; obtain ⟨t412, A50, H⟩ := Option.bind_eq_some_iff.mp H
    have A5 := ak A50; clear A50
    by_cases c6 : t412 = true
    ·subst c6
     rw [if_pos rfl] at H; obtain rfl := Option.some.inj H; have p411 : 0 ≤ (x8_1 : Int) := dq; have q411 : x8_1 < (l0.length : Int) := dq; obtain ⟨ad411, e411, hx411_0⟩ := Kd.at_int HR0.out x8_1 p411 q411; cases e411; replace hx411_0 := hb_ HB hx411_0; replace p411 := eq_true p411; replace q411 := eq_true q411
     go_wp2_with ((go_at_call 31; (with_reducible refine (impl_StandLoose_1.calls g pc k1 (rd l0 x8_1) true _ (by exact capr_at bq hcap) A5.out).mono ?_); rintro e w7 ⟨rfl, hb⟩; have n0_ := ak (below_step bq hb); clear HB; have HB := n0_; clear n0_; (try clear hb)))
     go_ret; exact ⟨eq_, bq⟩
    ·replace c6 := Bool.eq_false_iff.mpr c6
     subst c6; rw [if_neg (show ¬ (false = true) by decide)] at H; have H' := ak H; clear H; have p411 : 0 ≤ (x8_1 : Int) := dq; have q411 : x8_1 < (l0.length : Int) := dq; obtain ⟨ad411, e411, hx411_0⟩ := Kd.at_int HR0.out x8_1 p411 q411; cases e411; replace hx411_0 := hb_ HB hx411_0; replace p411 := eq_true p411; replace q411 := eq_true q411
     go_wp2_with ((go_at_call 31; (with_reducible refine (impl_StandLoose_1.calls g pc k1 (rd l0 x8_1) false _ (by exact capr_at bq hcap) A5.out).mono ?_); rintro e w8 ⟨rfl, hb⟩; have n0_ := ak (below_step bq hb); clear HB; have HB := n0_; clear n0_; (try clear hb)))
     go_roundg k1
     case measure => have := HK1.out; omega
     case rel => exact ⟨(wrap64 (x8_1 + 1)), sq, H', ⟨by have := HK1.out; omega⟩, ⟨bq⟩⟩
   ·rw [if_neg c2] at H
    have c2b0 := decide_eq_false c2; clear c2; obtain rfl := Option.some.inj H; go_wp2; go_ret; exact ⟨eq_, bq⟩
/-! ### slices_DeleteFunc_StandLoose_1: function 30, by hand -/
def slices_DeleteFunc_StandLoose_1.l0 (g : List (S37)) : Nat → List Int → Int → Int → Option (List Int)
 | 0, _, _, _ => none
 | k + 1, x0, x5, x6 => if x6 < (x0.length : Int) then (if 0 ≤ x6 then ((impl_StandLoose_1.f g k (rd x0 x6)).bind fun t339 => (if t339 = true then (slices_DeleteFunc_StandLoose_1.l0 g k x0 x5 (wrap64 (x6 + 1))) else (if 0 ≤ x5 then (if x5 < (x0.length : Int) then (slices_DeleteFunc_StandLoose_1.l0 g k (x0.set (x5 : Int).toNat (rd x0 x6)) (wrap64 (x5 + 1)) (wrap64 (x6 + 1))) else (none)) else (none)))) else (none)) else (if 0 ≤ x5 then (if x5 < (x0.length : Int) then (some (x0.take (x5 : Int).toNat)) else (none)) else (none))
def slices_DeleteFunc_StandLoose_1.f (g : List (S37)) (k : Nat) (l0 : List Int) : Option (List Int) := (slices_IndexFunc_StandLoose_1.f g k l0).bind fun t337 => (if t337 = (-1) then (some l0) else (slices_DeleteFunc_StandLoose_1.l0 g k l0 t337 (wrap64 (t337 + 1))))
theorem slices_DeleteFunc_StandLoose_1.setCells_blk {g : Nat} {t : TypeId} : ∀ (vs : List Value) (o : Nat) {w : World} {cs : Array Value}, w.heap[g]? = some (.cells cs t (0, 0)) → ∃ cs', (w.setCells g o vs).heap[g]? = some (.cells cs' t (0, 0)) ∧ cs'.size = cs.size ∧ (∀ i, i < o → cs'[i]? = cs[i]?) ∧ w.grownBy (w.setCells g o vs) (some g) := by
 intro vs
 induction vs with
 | nil => intro o w cs h; exact ⟨cs, h, rfl, fun _ _ => rfl, ⟨rfl, rfl, rfl, Nat.le_refl _, fun _ _ _ => rfl⟩⟩
 | cons v r ih =>
  intro o w cs h; have h1 := blk_set h o v; obtain ⟨cs', e1, e2, e3, e4⟩ := ih (o + 1) h1; refine ⟨cs', e1, by rw [e2]; simp, fun i hi => ?_, ?_⟩
  ·rw [e3 i (by omega), Array.getElem?_setIfInBounds_ne (by omega)]
  ·have g1 : w.grownBy (w.setCell ⟨g, o, none⟩ v) (some g) := ⟨(Below.setCell (Below.refl 0 w) (Nat.zero_le _) v).os, (Below.setCell (Below.refl 0 w) (Nat.zero_le _) v).tape, (Below.setCell (Below.refl 0 w) (Nat.zero_le _) v).output, by simp, fun k hk hne => Below.heap_setCell w ⟨g, o, none⟩ v k (fun e => hne (by rw [e]))⟩
   exact World.grownBy.trans g1 e4
/-- The cells behind a row's elements are set to zero: the row stays. -/
theorem slices_DeleteFunc_StandLoose_1.R_clear {α : Type} (d : Kd α) {W : World} {base e g n c m c2 : Nat} {xs : List α} {ok : Nat → Prop} (t : TypeId) (z : Value) (ht : Tryz.prog.underlying t = some (.slice e)) (hv : ∀ w, (zeroValue e).run Tryz.prog w = .ok z w) (hzs : z.cells.size = d.sz) (h1 : ∀ u ∈ z.cells, u.oneCell' = true) (hd0 : 0 < d.sz) (hM : ∀ (W W' : World) (base : Nat) (ok : Nat → Prop) p c, d.M W base ok p c → d.M W' base ok p c)
  (HO : d.R e W base ok (.slice (some ⟨g, 0, none⟩) n c) xs) (hm : n + m ≤ c) (hm0 : 0 < m) :
  ∃ w1, (∀ ty, (Builtin.clear_ #[t] ty #[.slice (some ⟨g, n * d.sz, none⟩) m c2]).run Tryz.prog W = .ok (.tuple #[]) w1) ∧ d.R e w1 base ok (.slice (some ⟨g, 0, none⟩) n c) xs ∧ W.grownBy w1 (some g) := by
 obtain ⟨hok, inner, ⟨ho1, ho2⟩, hr⟩ := HO
 rcases ho2 with ⟨hv', _⟩ | ⟨g', cap', cur, hv', hb, hh, h2, hcm, hcs, htake⟩
 ·cases hv'
 injection hv' with ha hn hc
 injection ha with ha
 injection ha with hg
 subst hg; subst hc; subst hn
 have hzl : (Builtin.zeroCells z.cells m).toList.length = m * d.sz := by simp [Builtin.zeroCells, hzs]
 obtain ⟨cs', e1, e2, e3, e4⟩ := slices_DeleteFunc_StandLoose_1.setCells_blk (Builtin.zeroCells z.cells m).toList (xs.length * d.sz) hh; have hmul : (xs.length + m) * d.sz ≤ c * d.sz := Nat.mul_le_mul_right _ hm; rw [Nat.add_mul] at hmul
 have hcell : ∀ j, j < m * d.sz → (W.cell? ⟨g, xs.length * d.sz + 0 + j, none⟩).isSome = true := by
  intro j hj; rw [blk_cell hh, Array.getElem?_eq_getElem (by rw [hcs]; omega)]; rfl
 refine ⟨W.setCells g (xs.length * d.sz) (Builtin.zeroCells z.cells m).toList, fun ty => ?_, ⟨hok, inner, ⟨ho1, Or.inr ⟨g, c, cs', rfl, hb, e1, h2, hcm, by rw [e2]; exact hcs, ?_⟩⟩, hr.imp_ (fun p c hp => hM _ _ _ _ _ _ hp)⟩, e4⟩
 ·have hst := run_storeCells_cells (P := Tryz.prog) g (xs.length * d.sz) (Builtin.zeroCells z.cells m).toList 0 W (by rw [hzl]; exact hcell) (by intro j _; exact blk_frozen hh _) (by
   intro v hv2; simp only [Builtin.zeroCells, Array.toList_map, List.mem_map] at hv2; obtain ⟨i, hi, rfl⟩ := hv2; have hlt : i % z.cells.size < z.cells.size := Nat.mod_lt _ (by omega); rw [getElem!_pos z.cells _ hlt]
   exact h1 _ (Array.getElem_mem hlt))
  simp only [Nat.add_zero] at hst; obtain ⟨m', rfl⟩ : ∃ m', m = m' + 1 := ⟨m - 1, by omega⟩
  simp [Builtin.clear_, run_underlying ht, hv, hst]
 ·rw [← htake]
  apply List.ext_getElem?
  intro i
  by_cases hi : i < xs.length * d.sz
  ·rw [List.getElem?_take_of_lt hi, List.getElem?_take_of_lt hi, Array.getElem?_toList, Array.getElem?_toList, e3 i hi]
  ·rw [List.getElem?_take_eq_none (by omega), List.getElem?_take_eq_none (by omega)]
theorem slices_DeleteFunc_StandLoose_1.zero (w : World) : (zeroValue 3).run Tryz.prog w = .ok (.int .i64 0) w := by kernel_rfl
theorem slices_DeleteFunc_StandLoose_1.M (W W' : World) (base : Nat) (ok : Nat → Prop) (p : Int) (c : List Value) (h : (Kd.int .i64).M W base ok p c) : (Kd.int .i64).M W' base ok p c := h
theorem slices_DeleteFunc_StandLoose_1.calls (g : List (S37)) (pc : Addr) (k : Nat) (P0_ : Nat → Prop) (u9000_ : Value) (l0 : List Int) (r : List Int) (w0 w : World) (hB : Below w0.heap.size w0 w) (ho0 : Kd.R (Kd.int .i64) 3 w w0.heap.size P0_ u9000_ l0) (hcap : CapR w0 pc g) (h : slices_DeleteFunc_StandLoose_1.f g k l0 = some r) :
  Calls Tryz.prog 30 #[u9000_, .func (.func 31) #[] #[.pointer (some pc)]] w fun e w' => ∃ v0_ : Value, e = .returned (v0_) ∧ Kd.R (Kd.int .i64) 3 w' w0.heap.size (fun k_ => (P0_ k_ ∨ w.heap.size ≤ k_)) v0_ r ∧ Below w0.heap.size w0 w' ∧ Kept w w' (fun k_ => P0_ k_) := by
 have HO0 := ak (show Kd.R (Kd.int .i64) 3 w w0.heap.size (fun k_ => (P0_ k_ ∨ w.heap.size ≤ k_)) u9000_ l0 from Kd.R_mono ho0 (fun k_ hk => (.inl hk))); have HK := ak (Kept.refl w (fun k_ => P0_ k_)); have HW0 := ak hB.size; have HB := ak hB; clear hB; have H : ((slices_IndexFunc_StandLoose_1.f g k l0).bind fun t337 => (if t337 = (-1) then (some l0) else (slices_DeleteFunc_StandLoose_1.l0 g k l0 t337 (wrap64 (t337 + 1))))) = some r := h; clear h; obtain ⟨t337, A20, H⟩ := Option.bind_eq_some_iff.mp H
 have A2 := ak A20; clear A20
 by_cases c3 : t337 = (-1)
 ·rw [if_pos c3] at H
  have c3b0 : (t337 == (-1)) = true := beq_iff_eq.mpr c3; have c3b1 : (t337 != (-1)) = false := bne_eq_false_iff_eq.mpr c3; clear c3; obtain rfl := Option.some.inj H; obtain ⟨Ao4, co4, eo4⟩ := Kd.R_slice HO0.out; subst eo4
  go_enter Tryz.func30, Tryz.ntmps30
  go_wp2_with (((with_reducible refine gate_callee (f := 59) rfl ?_); refine goesL_ (some 10) rfl rfl Tryz.func59 (by kernel_rfl) rfl #[.slice Ao4 l0.length co4, .func (.func 31) #[] #[.pointer (some pc)]] rfl aq ?_; (with_reducible refine (slices_IndexFunc_StandLoose_1.calls g pc k _ _ l0 t337 _ ?side1 ?side2 (by exact capr_at bq hcap) A2.out).mono ?_); (case side1 => exact cq (Kd.R_reads' HO0.out).2.2); (case side2 => exact (Kd.R_reads' HO0.out).2.1); rintro e w5 ⟨rfl, hb⟩; refine ⟨_, rfl, ?_⟩; have n0_ := ak (Kd.R_below (rq HO0) hb); have n1_ := ak (Kept.below (S := (fun k_ => P0_ k_)) kq hb); have n2_ := ak (below_step bq hb); clear HO0; clear HK; clear HB; have HO0 := n0_; have HK := n1_; have HB := n2_; clear n0_ n1_ n2_; (try clear hb)))
  go_ret; exact ⟨_, eq_, rq HO0, bq, kq⟩
 ·rw [if_neg c3] at H
  have c3b0 : (t337 == (-1)) = false := beq_eq_false_iff_ne.mpr c3; have c3b1 : (t337 != (-1)) = true := bne_iff_ne.mpr c3; have H' := ak H; clear H; obtain ⟨Ao6, co6, eo6⟩ := Kd.R_slice HO0.out; subst eo6
  go_enter Tryz.func30, Tryz.ntmps30
  go_wp2_with (((with_reducible refine gate_callee (f := 59) rfl ?_); refine goesL_ (some 10) rfl rfl Tryz.func59 (by kernel_rfl) rfl #[.slice Ao6 l0.length co6, .func (.func 31) #[] #[.pointer (some pc)]] rfl aq ?_; (with_reducible refine (slices_IndexFunc_StandLoose_1.calls g pc k _ _ l0 t337 _ ?side1 ?side2 (by exact capr_at bq hcap) A2.out).mono ?_); (case side1 => exact cq (Kd.R_reads' HO0.out).2.2); (case side2 => exact (Kd.R_reads' HO0.out).2.1); rintro e w7 ⟨rfl, hb⟩; refine ⟨_, rfl, ?_⟩; have n0_ := ak (Kd.R_below (rq HO0) hb); have n1_ := ak (Kept.below (S := (fun k_ => P0_ k_)) kq hb); have n2_ := ak (below_step bq hb); clear HO0; clear HK; clear HB; have HO0 := n0_; have HK := n1_; have HB := n2_; clear n0_ n1_ n2_; (try clear hb)))
  go_loopg [5, 6] k (fun kq v5 v6 w' => ∃ (x0_1 : List Int) (x5_1 : Int) (x6_1 : Int), v5 = .int .i64 x5_1 ∧ v6 = .int .i64 x6_1 ∧ Aside0 (slices_DeleteFunc_StandLoose_1.l0 g kq x0_1 x5_1 x6_1 = some r) ∧ Aside0 (kq ≤ k) ∧ Aside0 (Kd.R (Kd.int .i64) 3 w' w0.heap.size (fun k_ => (P0_ k_ ∨ w.heap.size ≤ k_)) (.slice Ao6 l0.length co6) x0_1) ∧ Aside0 (Kept w w' (fun k_ => P0_ k_)) ∧ Aside0 (Below w0.heap.size w0 w'))
  case atStart => exact ⟨(l0), (t337), (wrap64 (t337 + 1)), sq, sq, H', ⟨Nat.le_refl _⟩, ⟨rq HO0⟩, ⟨kq⟩, ⟨bq⟩⟩
  case round =>
   clear H'; (try clear c3); (try clear c3b0); (try clear c3b1); obtain ⟨x0_1, x5_1, x6_1, rfl, rfl, HA, HK1, HO_0, HK, HB⟩ := hrel; have hl0_1 := (Kd.R_reads' HO_0.out).1; rw [hl0_1] at HO_0
   (try simp only [hl0_1])
   cases gk with
   | zero => exact absurd HA.out (by simp [slices_DeleteFunc_StandLoose_1.l0])
   | succ k1 =>
    have H := HA.out; clear HA; simp only [slices_DeleteFunc_StandLoose_1.l0] at H
    by_cases c8 : x6_1 < (x0_1.length : Int)
    ·rw [if_pos c8] at H
     have c8b0 := decide_eq_true c8; clear c8
     revert H; refine ig_ fun c9 H => ?_
     have c9b0 := decide_eq_true c9; clear c9; obtain ⟨t339, A100, H⟩ := Option.bind_eq_some_iff.mp H
     have A10 := ak A100; clear A100
     by_cases c11 : t339 = true
     ·subst c11
      rw [if_pos rfl] at H; have H' := ak H; clear H; have p338 : 0 ≤ (x6_1 : Int) := dq; have q338 : x6_1 < (x0_1.length : Int) := dq; obtain ⟨ad338, e338, hx338_0⟩ := Kd.at_int (Kd.R_reads' HO_0.out).2.2 x6_1 p338 q338; cases e338; replace p338 := eq_true p338; replace q338 := eq_true q338
      go_wp2_with ((go_at_call 31; (with_reducible refine (impl_StandLoose_1.calls g pc k1 (rd x0_1 x6_1) true _ (by exact capr_at bq hcap) A10.out).mono ?_); rintro e w12 ⟨rfl, hb⟩; have n0_ := ak (Kd.R_below (rq HO_0) hb); have n1_ := ak (Kept.below (S := (fun k_ => P0_ k_)) kq hb); have n2_ := ak (below_step bq hb); clear HO_0; clear HK; clear HB; have HO_0 := n0_; have HK := n1_; have HB := n2_; clear n0_ n1_ n2_; (try clear hb)))
      (try simp only [← hl0_1])
      go_roundg k1
      case measure => have := HK1.out; omega
      case rel => exact ⟨(x0_1), (x5_1), (wrap64 (x6_1 + 1)), sq, sq, H', ⟨by have := HK1.out; omega⟩, ⟨by (try simp only [hl0_1]); exact HO_0.out⟩, ⟨kq⟩, ⟨bq⟩⟩
     ·replace c11 := Bool.eq_false_iff.mpr c11
      subst c11; rw [if_neg (show ¬ (false = true) by decide)] at H
      revert H; refine ig_ fun c13 H => ?_
      have c13b0 := decide_eq_true c13; clear c13
      revert H; refine ig_ fun c14 H => ?_
      have c14b0 := decide_eq_true c14; clear c14; obtain ⟨y340, hy340⟩ : ∃ y_ : List Int, y_ = (x0_1.set (x5_1 : Int).toNat (rd x0_1 x6_1)) := ⟨_, rfl⟩
      replace H : (slices_DeleteFunc_StandLoose_1.l0 g k1 y340 (wrap64 (x5_1 + 1)) (wrap64 (x6_1 + 1))) = some r := by first | (rw [hy340]; with_reducible exact H) | (have H2_ := (Option.bind_some _ _).symm.trans H; rw [hy340]; with_reducible exact H2_) | (have H2_ := (Option.bind_some _ _).symm.trans H; with_reducible exact H2_) | with_reducible exact H | (rw [hy340]; exact H) | exact H
      have Ny340 := ak hy340; clear hy340; have H' := ak H; clear H; have p338 : 0 ≤ (x6_1 : Int) := dq; have q338 : x6_1 < (x0_1.length : Int) := dq; obtain ⟨ad338, e338, hx338_0⟩ := Kd.at_int (Kd.R_reads' HO_0.out).2.2 x6_1 p338 q338; cases e338; replace p338 := eq_true p338; replace q338 := eq_true q338
      go_wp2_with (first | (go_at_call 31; (with_reducible refine (impl_StandLoose_1.calls g pc k1 (rd x0_1 x6_1) false _ (by exact capr_at bq hcap) A10.out).mono ?_); rintro e w16 ⟨rfl, hb⟩; have n0_ := ak (Kd.R_below (rq HO_0) hb); have n1_ := ak (Kept.below (S := (fun k_ => P0_ k_)) kq hb); have n2_ := ak (below_step bq hb); clear HO_0; clear HK; clear HB; have HO_0 := n0_; have HK := n1_; have HB := n2_; clear n0_ n1_ n2_; (try clear hb); have p15 : 0 ≤ (x5_1 : Int) := dq; have q15 : (x5_1 : Int) < ((x0_1.length : Int) : Int) := dq; obtain ⟨go15, co15, eo15, gb15, gl15, cl15, HG15⟩ := Kd.R_form HO_0.out (by omega); (first | cases eo15 | (injection eo15 with ea_ en_ ec_; (fail); subst ec_; clear en_)); have GB15 := ak gb15; have GG15 := ak HG15; clear gb15 gl15 HG15; have HMgo15 := ak (show (P0_ go15 ∨ w.heap.size ≤ go15) from (HO_0.out.1 _ rfl)); (simp only [add_plain] at hx338_0); obtain ⟨hx15_0, hf15_0⟩ := Kd.R_celln 0 HO_0.out (x5_1 : Int) p15 q15; replace p15 := eq_true p15; replace q15 := eq_true q15; obtain ⟨hy17_, hz17_⟩ := Kd.R_celln 0 HO_0.out (x5_1 : Int) (dq) (dq); have HP17 := Kd.R_putg HO_0.out (x5_1 : Int) (rd x0_1 x6_1)) | ((with_reducible refine gate_store (t := 3) (p := 33) rfl ?_); refine store_event (t := 3) (p := 33) (v := ?vo_w18) (w1 := (w16.setCell ⟨go15, (x5_1 : Int).toNat, none⟩ (.int .i64 (rd x0_1 x6_1)))) ?hg ?ho ?hn ?hr ?_; (case ho => rfl); (case hg => rfl); (case hn => rfl); (case hr => (go_simp; done)); intro w18 hw; have hg : w16.grownBy w18 (some go15) := (by rw [hw]; exact HP17.2); have hp_ : Kd.R (Kd.int .i64) 3 w18 w0.heap.size (fun k_ => (P0_ k_ ∨ w.heap.size ≤ k_)) (.slice (some ⟨go15, 0, none⟩) x0_1.length co6) y340 := (by rw [hw, Ny340.out]; exact HP17.1); clear HP17; have n0_ := ak (hp_); have n1_ := ak ((by rw [hw]; exact below_set (HB.out) GB15.out : Below w0.heap.size w0 w18)); have n2_ := ak (Kept.of_grown (S := (fun k_ => P0_ k_)) hg kq (fun k_ e_ => (HO_0.out.1 k_ e_))); clear HO_0; clear HB; clear HK; have HO_0 := n0_; have HB := n1_; have HK := n2_; clear n0_ n1_ n2_; clear hg hw hp_))
      (try simp only [← hl0_1])
      go_roundg k1
      case measure => have := HK1.out; omega
      case rel => exact ⟨(y340), (wrap64 (x5_1 + 1)), (wrap64 (x6_1 + 1)), sq, sq, H', ⟨by have := HK1.out; omega⟩, ⟨by (try simp only [hl0_1]); exact HO_0.out⟩, ⟨kq⟩, ⟨bq⟩⟩
    ·rw [if_neg c8] at H
     have c8b0 := decide_eq_false c8; clear c8
     revert H; refine ig_ fun c19 H => ?_
     revert H; refine ig_ fun c20 H => ?_
     obtain ⟨i, rfl⟩ := Int.eq_ofNat_of_zero_le c19
     have hi : i < x0_1.length := by omega
     rw [Int.toNat_natCast] at H; obtain rfl := Option.some.inj H; clear H; obtain ⟨go, cap, e_, gb, gl, cl, HG⟩ := Kd.R_form HO_0.out (by omega)
     obtain ⟨e1, e2, e3⟩ : Ao6 = some ⟨go, 0, none⟩ ∧ x0_1.length = x0_1.length ∧ co6 = cap := by injection e_ with a_ b_ c_; exact ⟨a_, rfl, c_⟩
     subst e1; subst e3; have hroom := (Kd.R_reads' HO_0.out).2.1; obtain ⟨i022, hi022, _, hsz22, _⟩ := info_parts info3; have hcut22 := cut_from (P := Tryz.prog) 26 3 .i64 Tryz.underlying26 hi022 1 hsz22 (some ⟨go, 0, none⟩) x0_1.length co6 (i : Int) (by omega) (by omega); have hcut23 := cut_to (P := Tryz.prog) 26 3 .i64 Tryz.underlying26 hi022 (some ⟨go, 0, none⟩) x0_1.length co6 (i : Int) (by omega) (by omega) hroom; have hr23 := Kd.R_take (m := i) HO_0.out (by omega); obtain ⟨w2, hclr, ho2, hg2⟩ := slices_DeleteFunc_StandLoose_1.R_clear (Kd.int .i64) (n := i) (c2 := co6 - i) 26 (.int .i64 0) Tryz.underlying26 slices_DeleteFunc_StandLoose_1.zero rfl (by intro u hu; simp [Value.cells] at hu; (subst hu; rfl)) (by decide) slices_DeleteFunc_StandLoose_1.M hr23 (m := x0_1.length - i) (by omega) (by omega)
     have hne : ¬ co6 = i := by omega
     have hle : (i : Int) ≤ (x0_1.length : Int) := by omega
     rw [Int.toNat_natCast, if_neg hne] at hcut22; rw [Int.toNat_natCast] at hcut23
     have eo : (some (⟨go, 0, none⟩ : Addr)).map (·.add (i * 1)) = some ⟨go, i * 1, none⟩ := by rw [Option.map_some, add_plain]
     rw [eo] at hcut22; have hszk : Kd.sz (Kd.int .i64) = 1 := rfl; rw [hszk] at hclr; rw [Nat.mul_one] at hclr hcut22; have HO2 := ak ho2; have HB2 := ak (HB.out.grown hg2 HB.out.size (fun k hk => by injection hk with hk; subst hk; exact gb)); have HK2 := ak (Kept.of_grown (S := (fun k_ => P0_ k_)) hg2 HK.out (fun k_ e_ => HO_0.out.1 k_ (by rw [← e_]; rfl))); clear ho2 hr23 hi022 hsz22 hg2 HO_0 HB HK HG gb gl; replace c19 := eq_true c19; replace c20 := eq_true c20; replace hle := eq_true hle; go_wp2; go_ret
     have hlen : (x0_1.take i).length = i := by rw [List.length_take]; omega
     exact ⟨_, rfl, HO2.out, HB2.out, HK2.out⟩
section
attribute [local go_sem high] eqA37
/-! ### impl_StandLoose: function 10, by hand -/
-- needs 6 31 30
/-- The loose cells without which the body stands. -/
def impl_StandLoose.f (k : Nat) (l0 : List (S37)) : Option (List Int × Bool) :=
 (impl_LooseCells.f k l0).bind fun t => if t.2 = true then ((slices_DeleteFunc_StandLoose_1.f l0 k t.1).bind fun s => some (s, true)) else some ([], false)
theorem impl_StandLoose.calls (k : Nat) (A0 : Option Addr) (c0 : Nat) (l0 : List (S37)) (r1 : List Int) (r2 : Bool) (w : World) (hr0 : Kd.C k37 w A0 l0.length l0) (hc0 : l0.length ≤ c0) (h : impl_StandLoose.f k l0 = some (r1, r2)) :
  Calls Tryz.prog 10 #[.slice A0 l0.length c0] w fun e w' => ∃ v0_ : Value, e = .returned (.tuple #[v0_, .bool r2]) ∧ Kd.R (Kd.int .i64) 3 w' w.heap.size (fun _ => True) v0_ r1 ∧ Below w.heap.size w w' := by
 have HR0 := ak hr0; have HC0 := ak hc0; clear hr0 hc0; have HB := ak (Below.refl w.heap.size w); obtain ⟨⟨r, ok⟩, A1_, H⟩ := Option.bind_eq_some_iff.mp h; clear h; have Q1 := ak A1_; clear A1_
 cases ok with
 | false =>
  have H' := ak H; clear H
  go_enter Tryz.func10, Tryz.ntmps10
  go_wp2_with (first | ((with_reducible refine gate_dst (N := 1) rfl ?_); refine box_event ?hg (N := 1) ?hd (cs := #[.slice A0 l0.length c0]) (t := 24) ?hr ?_; (case hd => rfl); (case hg => rfl); (case hr => (go_simp; done)); intro g5_ hg w5 hbox hb; have n0_ := ak (below_step bq hb); have cz5 : w5.cell? ⟨g5_, 0, none⟩ = some (.slice A0 l0.length c0) := (blk_cell hbox 0).trans rfl; clear HB; have HB := n0_; clear n0_ hb hg; have HR5 := ak (Kd.C_below HR0.out HB.out); have HCAP := ak (show CapR w5 ⟨g5_, 0, none⟩ l0 from ⟨A0, c0, cz5, HC0.out, HR5.out⟩); have HB1 := ak (Below.refl w5.heap.size w5); have cf5 := blk_frozen hbox 0; clear hbox) | (go_at_call 6; refine (impl_LooseCells.calls k A0 c0 l0 r false _ (Kd.C_below HR5.out bq) HC0.out Q1.out).mono ?_; rintro e w11 ⟨v1, rfl, ho, hb⟩; have HO1 := ak (Kd.R_lower ho (below_size bq)); have n0_ := ak (below_step bq hb); clear HB1; have HB1 := n0_; clear n0_ hb ho cz5 cf5))
  go_ret2
  obtain ⟨rfl, rfl⟩ : ([] : List Int) = r1 ∧ false = r2 := by have := H'.out; simpa using this
  exact ⟨_, by first | rfl | (simp <;> rfl), Kd.R_nil _ _ _ _ _, below_step HB.out bq⟩
 | true =>
  obtain ⟨s, A2_, H2⟩ := Option.bind_eq_some_iff.mp (show ((slices_DeleteFunc_StandLoose_1.f l0 k r).bind fun s => some (s, true)) = some (r1, r2) from H); clear H; have Q2 := ak A2_; clear A2_
  obtain ⟨rfl, rfl⟩ : s = r1 ∧ true = r2 := by simpa using H2
  clear H2
  go_enter Tryz.func10, Tryz.ntmps10
  go_wp2_with (first | ((with_reducible refine gate_dst (N := 1) rfl ?_); refine box_event ?hg (N := 1) ?hd (cs := #[.slice A0 l0.length c0]) (t := 24) ?hr ?_; (case hd => rfl); (case hg => rfl); (case hr => (go_simp; done)); intro g5_ hg w5 hbox hb; have n0_ := ak (below_step bq hb); have cz5 : w5.cell? ⟨g5_, 0, none⟩ = some (.slice A0 l0.length c0) := (blk_cell hbox 0).trans rfl; clear HB; have HB := n0_; clear n0_ hb hg; have HR5 := ak (Kd.C_below HR0.out HB.out); have HCAP := ak (show CapR w5 ⟨g5_, 0, none⟩ l0 from ⟨A0, c0, cz5, HC0.out, HR5.out⟩); have HB1 := ak (Below.refl w5.heap.size w5); have cf5 := blk_frozen hbox 0; clear hbox) | (go_at_call 6; refine (impl_LooseCells.calls k A0 c0 l0 r true _ (Kd.C_below HR5.out bq) HC0.out Q1.out).mono ?_; rintro e w11 ⟨v1, rfl, ho, hb⟩; have HO1 := ak (Kd.R_lower ho (below_size bq)); have n0_ := ak (below_step bq hb); clear HB1; have HB1 := n0_; clear n0_ hb ho cz5 cf5) | (go_at_call 30; refine (slices_DeleteFunc_StandLoose_1.calls l0 ⟨g5_, 0, none⟩ k (fun _ => True) v1 r s w5 _ bq (rq HO1) HCAP.out Q2.out).mono ?_; rintro e w12 ⟨v2, rfl, ho2, hb2, _⟩; have HO2 := ak ho2; have HB2 := ak hb2; clear ho2 hb2))
  go_ret2
  exact ⟨_, by first | rfl | (simp <;> rfl), (by exact Kd.R_mono (Kd.R_lower HO2.out HB.out.size) (fun _ _ => trivial)), below_step HB.out bq⟩
/-! ### spec_StandLoose: function 11 -/
def spec_StandLoose.f (k : Nat) (l0 : List (S37)) : Option (List Int × Bool) := (spec_l8Body.f k l0).bind fun t413 => (if t413 = true then ((spec_l8Loose.f k l0 true).bind fun t414 => (some (t414, true))) else (some ((([] : List Int)), false)))
theorem spec_StandLoose.calls (k : Nat) (A0 : Option Addr) (c0 : Nat) (l0 : List (S37)) (r1 : List Int) (r2 : Bool) (w : World) (hr0 : Kd.C k37 w A0 l0.length l0) (hc0 : l0.length ≤ c0) (h : spec_StandLoose.f k l0 = some (r1, r2)) :
  Calls Tryz.prog 11 #[.slice A0 l0.length c0] w fun e w' => ∃ v0_ : Value, e = .returned (.tuple #[v0_, .bool r2]) ∧ Kd.R (Kd.int .i64) 3 w' w.heap.size (fun _ => True) v0_ r1 ∧ Below w.heap.size w w' := by
 have HR0 := ak hr0; have HC0 := ak hc0; clear hr0 hc0; have HB := ak (Below.refl w.heap.size w); have H : ((spec_l8Body.f k l0).bind fun t413 => (if t413 = true then ((spec_l8Loose.f k l0 true).bind fun t414 => (some (t414, true))) else (some ((([] : List Int)), false)))) = some (r1, r2) := h; clear h; obtain ⟨t413, A20, H⟩ := Option.bind_eq_some_iff.mp H
 have A2 := ak A20; clear A20
 by_cases c3 : t413 = true
 ·subst c3
  rw [if_pos rfl] at H; obtain ⟨t414, A40, H⟩ := Option.bind_eq_some_iff.mp H
  have A4 := ak A40; clear A40; simp only [Option.some.injEq, Prod.mk.injEq] at H; obtain ⟨rfl, rfl⟩ := H
  go_enter Tryz.func11, Tryz.ntmps11
  go_wp2_with (first | ((with_reducible refine gate_callee (f := 24) rfl ?_); refine goesL_ (some 5) rfl rfl Tryz.func24 (by kernel_rfl) rfl #[.slice A0 l0.length c0] rfl aq ?_; (with_reducible refine (spec_l8Body.calls k _ _ l0 true _ ?side1 ?side2 A2.out).mono ?_); (case side1 => exact cq HR0.out); (case side2 => exact HC0.out); rintro e w5 ⟨rfl, hb⟩; refine ⟨_, rfl, ?_⟩; have n0_ := ak (below_step bq hb); clear HB; have HB := n0_; clear n0_; (try clear hb)) | ((with_reducible refine gate_callee (f := 25) rfl ?_); refine goesL_ (some 9) rfl rfl Tryz.func25 (by kernel_rfl) rfl #[.slice A0 l0.length c0, .bool true] rfl aq ?_; (with_reducible refine (spec_l8Loose.calls k _ _ l0 true t414 _ ?side1 ?side2 A4.out).mono ?_); (case side1 => exact cq (Kd.C_below HR0.out HB.out)); (case side2 => exact HC0.out); rintro e w6 ⟨v415, rfl, ho0, hb⟩; refine ⟨_, rfl, ?_⟩; have n0_ := ak (Kd.R_lower ho0 (below_size bq)); have n1_ := ak (below_step bq hb); clear HB; have HO416 := n0_; have HB := n1_; clear n0_ n1_; (try clear hb); (try clear ho0)))
  go_ret2
  exact ⟨_, eq_, rq HO416, bq⟩
 ·replace c3 := Bool.eq_false_iff.mpr c3
  subst c3; rw [if_neg (show ¬ (false = true) by decide)] at H; obtain ⟨y417, hy417⟩ : ∃ y_ : List Int, y_ = (([] : List Int)) := ⟨_, rfl⟩
  replace H : (some (y417, false)) = some (r1, r2) := by first | (rw [hy417]; with_reducible exact H) | (have H2_ := (Option.bind_some _ _).symm.trans H; rw [hy417]; with_reducible exact H2_) | (have H2_ := (Option.bind_some _ _).symm.trans H; with_reducible exact H2_) | with_reducible exact H | (rw [hy417]; exact H) | exact H
  have Ny417 := ak hy417; clear hy417; simp only [Option.some.injEq, Prod.mk.injEq] at H; obtain ⟨rfl, rfl⟩ := H
  go_enter Tryz.func11, Tryz.ntmps11
  go_wp2_with (first | ((with_reducible refine gate_callee (f := 24) rfl ?_); refine goesL_ (some 5) rfl rfl Tryz.func24 (by kernel_rfl) rfl #[.slice A0 l0.length c0] rfl aq ?_; (with_reducible refine (spec_l8Body.calls k _ _ l0 false _ ?side1 ?side2 A2.out).mono ?_); (case side1 => exact cq HR0.out); (case side2 => exact HC0.out); rintro e w7 ⟨rfl, hb⟩; refine ⟨_, rfl, ?_⟩; have n0_ := ak (below_step bq hb); clear HB; have HB := n0_; clear n0_; (try clear hb)) | ((with_reducible refine gate_dst (N := 7) rfl ?_); refine Kd.R_lit (Kd.int .i64) _ 3 ?hg (N := 7) ?hd (xs := ([] : List Int)) (inner := []) (ok := fun _ => True) (okp := fun _ => True) ?hr ?hp (fun _ hk => hk) trivial (Below.refl _ _) (Nat.le_refl _) (by simp) ?_; (case hd => rfl); (case hg => rfl); (case hr => (go_simp; done)); (case hp => exact (Reps.none _ _)); intro v418 w8 ho9 hb hg_ hnew_; clear hg_ hnew_; (rw [← Ny417.out] at ho9); have n0_ := ak (Kd.R_lower ho9 (below_size bq)); have n1_ := ak (below_step bq hb); clear HB; have HO419 := n0_; have HB := n1_; clear n0_ n1_; clear hb ho9))
  go_ret2
  exact ⟨_, eq_, rq HO419, bq⟩
/-! ### spec_DrawCellsToStand: function 12 -/
def spec_DrawCellsToStand.f (k : Nat) (l0 : List Int) : Option ((List (S37))) := (spec_DrawIsBody.f k l0).bind fun t420 => (some t420)
theorem spec_DrawCellsToStand.calls (k : Nat) (A0 : Option Addr) (c0 : Nat) (l0 : List Int) (r : List (S37)) (w : World) (hr0 : Kd.C (Kd.int .u8) w A0 l0.length l0) (hc0 : l0.length ≤ c0) (h : spec_DrawCellsToStand.f k l0 = some r) :
  Calls Tryz.prog 12 #[.slice A0 l0.length c0] w fun e w' => ∃ v0_ : Value, e = .returned (v0_) ∧ Kd.R k37 37 w' w.heap.size (fun _ => True) v0_ r ∧ Below w.heap.size w w' := by
 have HR0 := ak hr0; have HC0 := ak hc0; clear hr0 hc0; have HB := ak (Below.refl w.heap.size w); have H : ((spec_DrawIsBody.f k l0).bind fun t420 => (some t420)) = some r := h; clear h; obtain ⟨t420, A20, H⟩ := Option.bind_eq_some_iff.mp H
 have A2 := ak A20; clear A20; obtain rfl := Option.some.inj H
 go_enter Tryz.func12, Tryz.ntmps12
 go_wp2_with (((with_reducible refine gate_callee (f := 22) rfl ?_); refine goesL_ (some 4) rfl rfl Tryz.func22 (by kernel_rfl) rfl #[.slice A0 l0.length c0] rfl aq ?_; (with_reducible refine (spec_DrawIsBody.calls k _ _ l0 t420 _ ?side1 ?side2 A2.out).mono ?_); (case side1 => exact cq HR0.out); (case side2 => exact HC0.out); rintro e w3 ⟨v421, rfl, ho0, hb⟩; refine ⟨_, rfl, ?_⟩; have n0_ := ak (Kd.R_lower ho0 (below_size bq)); have n1_ := ak (below_step bq hb); clear HB; have HO422 := n0_; have HB := n1_; clear n0_ n1_; (try clear hb); (try clear ho0)))
 go_ret; exact ⟨_, eq_, rq HO422, bq⟩
/-! ### slices_Index: function 76 -/
def slices_Index.l0 : Nat → List (S37) → Int → Int → Int → Int → Option (Int)
 | 0, _, _, _, _, _ => none
 | k + 1, x0, x7, x8, x424000, x424001 => if x8 < x7 then (if 0 ≤ x8 then (if x8 < (x0.length : Int) then (if (x424000 == ((rd_T37 x0 x8).f0) && (x424001 == ((rd_T37 x0 x8).f1))) = true then (some x8) else (slices_Index.l0 k x0 x7 (wrap64 (x8 + 1)) x424000 x424001)) else (none)) else (none)) else (some (-1))
def slices_Index.f (k : Nat) (l0 : List (S37)) (a1_0 : Int) (a1_1 : Int) : Option (Int) := slices_Index.l0 k l0 (l0.length : Int) 0 a1_0 a1_1
theorem slices_Index.calls (k : Nat) (A0 : Option Addr) (c0 : Nat) (l0 : List (S37)) (a1_0 : Int) (a1_1 : Int) (r : Int) (w : World) (hr0 : Kd.C k37 w A0 l0.length l0) (hc0 : l0.length ≤ c0) (h : slices_Index.f k l0 a1_0 a1_1 = some r) :
  Calls Tryz.prog 76 #[.slice A0 l0.length c0, .agg #[.int .i64 a1_0, .int .i64 a1_1]] w fun e w' => e = .returned (.int .i64 r) ∧ Below w.heap.size w w' := by
 have hu37 := Tryz.underlying37; have HR0 := ak hr0; have HC0 := ak hc0; clear hr0 hc0; have HB := ak (Below.refl w.heap.size w); have H : (slices_Index.l0 k l0 (l0.length : Int) 0 a1_0 a1_1) = some r := h; clear h; have H' := ak H; clear H
 go_enter Tryz.func76, Tryz.ntmps76
 go_wp2_with (((with_reducible refine gate_dst (N := 3) rfl ?_); refine box_event ?hg (N := 3) ?hd (cs := #[.int .i64 a1_0, .int .i64 a1_1]) (t := 37) ?hr ?_; (case hd => rfl); (case hg => rfl); (case hr => (go_simp; done)); intro gb423 hg w3 hbox hb; have n0_ := ak (below_step bq hb); have n1_ := ak (hbox); have n2_ := ak ((by rw [hg]; exact (below_size bq) : w.heap.size ≤ gb423)); have n3_ := ak ((by rw [hg]; exact (below_size bq) : w.heap.size ≤ gb423)); clear HB; have HB := n0_; have BK423 := n1_; have GW423 := n2_; have GE423 := n3_; clear n0_ n1_ n2_ n3_; clear hb hbox hg))
 repeat (go_quiet (fail); try go_wp2_with (fail))
 go_loopg [8] k (fun kq v8 w' => ∃ (x8_1 : Int), v8 = .int .i64 x8_1 ∧ Aside0 (slices_Index.l0 kq l0 (l0.length : Int) x8_1 a1_0 a1_1 = some r) ∧ Aside0 (kq ≤ k) ∧ Aside0 (w'.heap[gb423]? = some (.cells #[.int .i64 a1_0, .int .i64 a1_1] 37 (0, 0))) ∧ Aside0 (Below w.heap.size w w'))
 case atStart => exact ⟨(0), sq, H', ⟨Nat.le_refl _⟩, ⟨by exact BK423.out⟩, ⟨bs⟩⟩
 case round =>
  clear H'; obtain ⟨x8_1, rfl, HA, HK1, BK423, HB⟩ := hrel
  cases gk with
  | zero => exact absurd HA.out (by simp [slices_Index.l0])
  | succ k1 =>
   have H := HA.out; clear HA; simp only [slices_Index.l0] at H
   by_cases c4 : x8_1 < (l0.length : Int)
   ·rw [if_pos c4] at H
    have c4b0 := decide_eq_true c4; clear c4
    revert H; refine ig_ fun c5 H => ?_
    have c5b0 := decide_eq_true c5; clear c5
    revert H; refine ig_ fun c6 H => ?_
    have c6b0 := decide_eq_true c6; clear c6
    by_cases c7 : (a1_0 == ((rd_T37 l0 x8_1).f0) && (a1_1 == ((rd_T37 l0 x8_1).f1))) = true
    ·rw [if_pos c7] at H
     have c7b0 : (a1_0 == ((rd_T37 l0 x8_1).f0) && (a1_1 == ((rd_T37 l0 x8_1).f1))) = true := c7
     (try (have c7b1 : decide (a1_0 = ((rd_T37 l0 x8_1).f0) && (a1_1 == ((rd_T37 l0 x8_1).f1))) = true := by simpa using c7))
     (try (have c7b2 : (a1_0 == ((rd_T37 l0 x8_1).f0) && (a1_1 == ((rd_T37 l0 x8_1).f1))) = true := by simpa using c7))
     clear c7; obtain rfl := Option.some.inj H; have hcz8_0 : wr.cell? ⟨gb423, 0, none⟩ = some (.int .i64 a1_0) := (blk_cell BK423.out 0).trans rfl; have hcz8_1 : wr.cell? ⟨gb423, 1, none⟩ = some (.int .i64 a1_1) := (blk_cell BK423.out 1).trans rfl; have hfz8_0 := blk_frozen BK423.out 0; have hfz8_1 := blk_frozen BK423.out 1; have p424 : 0 ≤ (x8_1 : Int) := dq; have q424 : x8_1 < (l0.length : Int) := dq; obtain ⟨ad424, e424, hx424_0, hx424_1⟩ := at_T37 HR0.out x8_1 p424 q424; cases e424; replace hx424_0 := hb_ HB hx424_0; replace hx424_1 := hb_ HB hx424_1; replace p424 := eq_true p424; replace q424 := eq_true q424; go_wp2
     repeat (go_quiet (fail); try go_wp2)
     go_ret; exact ⟨eq_, bs⟩
    ·rw [if_neg c7] at H
     have c7b0 : (a1_0 == ((rd_T37 l0 x8_1).f0) && (a1_1 == ((rd_T37 l0 x8_1).f1))) = false := by simpa using c7
     (try (have c7b1 : decide (a1_0 = ((rd_T37 l0 x8_1).f0) && (a1_1 == ((rd_T37 l0 x8_1).f1))) = false := by simpa using c7))
     (try (have c7b2 : (a1_0 == ((rd_T37 l0 x8_1).f0) && (a1_1 == ((rd_T37 l0 x8_1).f1))) = false := by simpa using c7))
     (try (have c7b3 : ¬ (a1_0 = ((rd_T37 l0 x8_1).f0) && (a1_1 == ((rd_T37 l0 x8_1).f1))) := by simpa using c7))
     clear c7; have H' := ak H; clear H; have hcz9_0 : wr.cell? ⟨gb423, 0, none⟩ = some (.int .i64 a1_0) := (blk_cell BK423.out 0).trans rfl; have hcz9_1 : wr.cell? ⟨gb423, 1, none⟩ = some (.int .i64 a1_1) := (blk_cell BK423.out 1).trans rfl; have hfz9_0 := blk_frozen BK423.out 0; have hfz9_1 := blk_frozen BK423.out 1; have p424 : 0 ≤ (x8_1 : Int) := dq; have q424 : x8_1 < (l0.length : Int) := dq; obtain ⟨ad424, e424, hx424_0, hx424_1⟩ := at_T37 HR0.out x8_1 p424 q424; cases e424; replace hx424_0 := hb_ HB hx424_0; replace hx424_1 := hb_ HB hx424_1; replace p424 := eq_true p424; replace q424 := eq_true q424; go_wp2
     repeat (go_quiet (fail); try go_wp2)
     go_roundg k1
     case measure => have := HK1.out; omega
     case rel => exact ⟨(wrap64 (x8_1 + 1)), sq, H', ⟨by have := HK1.out; omega⟩, ⟨by (with_reducible repeat (refine blk_drewN ?_ _)); exact BK423.out⟩, ⟨bs⟩⟩
   ·rw [if_neg c4] at H
    have c4b0 := decide_eq_false c4; clear c4; obtain rfl := Option.some.inj H; go_wp2
    repeat (go_quiet (fail); try go_wp2)
    go_ret; exact ⟨eq_, bs⟩
/-! ### slices_Contains: function 63 -/
def slices_Contains.f (k : Nat) (l0 : List (S37)) (a1_0 : Int) (a1_1 : Int) : Option (Bool) := (slices_Index.f k l0 a1_0 a1_1).bind fun t426 => (some (decide (t426 ≥ 0)))
theorem slices_Contains.calls (k : Nat) (A0 : Option Addr) (c0 : Nat) (l0 : List (S37)) (a1_0 : Int) (a1_1 : Int) (r : Bool) (w : World) (hr0 : Kd.C k37 w A0 l0.length l0) (hc0 : l0.length ≤ c0) (h : slices_Contains.f k l0 a1_0 a1_1 = some r) :
  Calls Tryz.prog 63 #[.slice A0 l0.length c0, .agg #[.int .i64 a1_0, .int .i64 a1_1]] w fun e w' => e = .returned (.bool r) ∧ Below w.heap.size w w' := by
 have hu37 := Tryz.underlying37; have HR0 := ak hr0; have HC0 := ak hc0; clear hr0 hc0; have HB := ak (Below.refl w.heap.size w); have H : ((slices_Index.f k l0 a1_0 a1_1).bind fun t426 => (some (decide (t426 ≥ 0)))) = some r := h; clear h; obtain ⟨t426, A30, H⟩ := Option.bind_eq_some_iff.mp H
 have A3 := ak A30; clear A30; obtain rfl := Option.some.inj H
 go_enter Tryz.func63, Tryz.ntmps63
 go_wp2_with (first | ((with_reducible refine gate_dst (N := 3) rfl ?_); refine box_event ?hg (N := 3) ?hd (cs := #[.int .i64 a1_0, .int .i64 a1_1]) (t := 37) ?hr ?_; (case hd => rfl); (case hg => rfl); (case hr => (go_simp; done)); intro gb425 hg w4 hbox hb; have n0_ := ak (below_step bq hb); have n1_ := ak (hbox); have n2_ := ak ((by rw [hg]; exact (below_size bq) : w.heap.size ≤ gb425)); have n3_ := ak ((by rw [hg]; exact (below_size bq) : w.heap.size ≤ gb425)); clear HB; have HB := n0_; have BK425 := n1_; have GW425 := n2_; have GE425 := n3_; clear n0_ n1_ n2_ n3_; clear hb hbox hg; have hcz5_0 : w4.cell? ⟨gb425, 0, none⟩ = some (.int .i64 a1_0) := (blk_cell BK425.out 0).trans rfl; have hcz5_1 : w4.cell? ⟨gb425, 1, none⟩ = some (.int .i64 a1_1) := (blk_cell BK425.out 1).trans rfl; have hfz5_0 := blk_frozen BK425.out 0; have hfz5_1 := blk_frozen BK425.out 1) | ((with_reducible refine gate_callee (f := 76) rfl ?_); refine goesL_ (some 7) rfl rfl Tryz.func76 (by kernel_rfl) rfl #[.slice A0 l0.length c0, .agg #[.int .i64 a1_0, .int .i64 a1_1]] rfl aq ?_; (with_reducible refine (slices_Index.calls k _ _ l0 a1_0 a1_1 t426 _ ?side1 ?side2 A3.out).mono ?_); (case side1 => exact cq (Kd.C_below HR0.out HB.out)); (case side2 => exact HC0.out); rintro e w6 ⟨rfl, hb⟩; refine ⟨_, rfl, ?_⟩; have n0_ := ak (blk_below (g := gb425) (o := .cells #[.int .i64 a1_0, .int .i64 a1_1] 37 (0, 0)) (uq BK425) hb); have n1_ := ak (below_step bs hb); clear BK425; clear HB; have BK425 := n0_; have HB := n1_; clear n0_ n1_; (try clear hb)))
 go_ret; exact ⟨eq_, bs⟩
end
end Go.Proofs.YtckhmeadflafaaaGreat.XFc
