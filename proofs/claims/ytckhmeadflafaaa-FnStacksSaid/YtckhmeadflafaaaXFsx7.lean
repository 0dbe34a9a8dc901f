/- Functions of the program as plain Lean functions, each with the proof that the machine's call does what it says: written by a program of this session out of the translation. -/
import Derived.Test.YtckhmeadflafaaaXFsx0
import Derived.Test.YtckhmeadflafaaaXFsx2
import Derived.Test.YtckhmeadflafaaaXFsx3
import Derived.Test.YtckhmeadflafaaaXFsx5
import Derived.Test.YtckhmeadflafaaaXFsx6
namespace Go.Proofs.Ytckhmeadflafaaa.XFs
open Go.RowKit Go.Proofs.YtckhmeadflafaaaW.PrintWords Go.Proofs.YtckhmeadflafaaaW.PrintLast Go.Proofs.YtckhmeadflafaaaW.PrintMore
attribute [local go_sem] max2_int min2_int max_two min_two max_three min_three max_four min_four   -- for this text's walks alone
set_option linter.unusedVariables false
set_option linter.unusedSimpArgs false

/-! ### spec_l1Cur_body: function 94 -/
mutual
def spec_l1Cur_body.l0 : Nat → List (S49) → Int → List Int → Int → Int → Option ((List (S49)) × Int × Int)
 | 0, _, _, _, _, _ => none
 | k + 1, x5, x6, x1000, x1001, x1002 => if (x5.length : Int) < x6 then ((spec_l8Edge.f k x5).bind fun t201 => ((spec_l1Cur_pick.f x1000 x1001 x1002 (t201.length : Int)).bind fun bt204 => (if 0 ≤ bt204.1 then (if bt204.1 < (t201.length : Int) then ((spec_l8Put.f k x5 ((rd_T49 t201 bt204.1).f0) ((rd_T49 t201 bt204.1).f1)).bind fun t208 => ((spec_l8Down.f k t208).bind fun t211 => (spec_l1Cur_body.l0 k t211 x6 x1000 bt204.2.1 bt204.2.2))) else (none)) else (none)))) else ((spec_l1Cur_pick.f x1000 x1001 x1002 50).bind fun bt214 => (if bt214.1 = 0 then ((spec_l1Cur_pick.f x1000 bt214.2.1 bt214.2.2 (x5.length : Int)).bind fun bt217 => ((spec_l1Cur_among.f x1000 bt217.2.1 bt217.2.2 (([(-1), 12, 4611686018427387904] : List Int))).bind fun bt223 => (if 0 ≤ bt217.1 then (if bt217.1 < (x5.length : Int) then (some ((x5.set (bt217.1 : Int).toNat (⟨bt223.1, 0⟩ : S49)), bt223.2.1, bt223.2.2)) else (none)) else (none)))) else (if bt214.1 = 1 then (if 0 ≤ (wrap64 ((x5.length : Int) - 1)) then (if (wrap64 ((x5.length : Int) - 1)) < (x5.length : Int) then (if x5.length < 8796093022208 then (some ((x5 ++ [(⟨(rd_T49 x5 (wrap64 ((x5.length : Int) - 1))).f0, wrap64 (((rd_T49 x5 (wrap64 ((x5.length : Int) - 1))).f1) + 2)⟩ : S49)]), bt214.2.1, bt214.2.2)) else (none)) else (none)) else (none)) else (if bt214.1 = 2 then (if 0 < (x5.length : Int) then (if x5.length < 8796093022208 then (some ((x5 ++ [(⟨(rd_T49 x5 0).f0, (rd_T49 x5 0).f1⟩ : S49)]), bt214.2.1, bt214.2.2)) else (none)) else (none)) else (if bt214.1 = 3 then (some ((([] : List (S49))), bt214.2.1, bt214.2.2)) else (if bt214.1 = 4 then (spec_l1Cur_body.l1 k x5 0 x1000 bt214.2.1 bt214.2.2) else (some (x5, bt214.2.1, bt214.2.2))))))))
def spec_l1Cur_body.l1 : Nat → List (S49) → Int → List Int → Int → Int → Option ((List (S49)) × Int × Int)
 | 0, _, _, _, _, _ => none
 | k + 1, x5, x8, x1000, x1001, x1002 => if x8 < (x5.length : Int) then (if 0 ≤ x8 then (spec_l1Cur_body.l1 k (x5.set (x8 : Int).toNat (⟨(rd_T49 x5 x8).f0, wrap64 (((rd_T49 x5 x8).f1) + 1)⟩ : S49)) (wrap64 (x8 + 1)) x1000 x1001 x1002) else (none)) else (some (x5, x1001, x1002))
end
def spec_l1Cur_body.f (k : Nat) (s0_0 : List Int) (s0_1 : Int) (s0_2 : Int) (a1 : Int) : Option ((List (S49)) × Int × Int) := (spec_l1Cur_among.f s0_0 s0_1 s0_2 (([4, 5, 3, 2, 1, 7, 9, 12] : List Int))).bind fun bt197 => ((spec_l1Least.f bt197.1 a1).bind fun t200 => (spec_l1Cur_body.l0 k (([(⟨0, 0⟩ : S49)] : List (S49))) t200 s0_0 bt197.2.1 bt197.2.2))
theorem spec_l1Cur_body.mono_l : ∀ k, (∀ y0 y1 y2 y3 y4, LeO (spec_l1Cur_body.l0 k y0 y1 y2 y3 y4) (spec_l1Cur_body.l0 (k + 1) y0 y1 y2 y3 y4)) ∧ (∀ y0 y1 y2 y3 y4, LeO (spec_l1Cur_body.l1 k y0 y1 y2 y3 y4) (spec_l1Cur_body.l1 (k + 1) y0 y1 y2 y3 y4))
 | 0 => ⟨fun _ _ _ _ _ r h => by simp [spec_l1Cur_body.l0] at h, fun _ _ _ _ _ r h => by simp [spec_l1Cur_body.l1] at h⟩
 | k + 1 => by
  obtain ⟨ih0, ih1⟩ := spec_l1Cur_body.mono_l k; refine ⟨?_, ?_⟩
  ·intro y0 y1 y2 y3 y4
   unfold spec_l1Cur_body.l0
   repeat' first
   | (with_reducible exact ih0 _ _ _ _ _)
   | (with_reducible exact ih1 _ _ _ _ _)
   | (with_reducible exact spec_l8Down.mono _ _)
   | (with_reducible exact spec_l8Edge.mono _ _)
   | (with_reducible exact spec_l8Put.mono _ _ _ _)
   | (with_reducible exact LeO.refl _)
   | (with_reducible exact LeO.none _)
   | (with_reducible refine LeO.ite ?_ ?_)
   | (with_reducible refine LeO.bind ?_ (fun _ => ?_))
  ·intro y0 y1 y2 y3 y4
   unfold spec_l1Cur_body.l1
   repeat' first
   | (with_reducible exact ih0 _ _ _ _ _)
   | (with_reducible exact ih1 _ _ _ _ _)
   | (with_reducible exact spec_l8Down.mono _ _)
   | (with_reducible exact spec_l8Edge.mono _ _)
   | (with_reducible exact spec_l8Put.mono _ _ _ _)
   | (with_reducible exact LeO.refl _)
   | (with_reducible exact LeO.none _)
   | (with_reducible refine LeO.ite ?_ ?_)
   | (with_reducible refine LeO.bind ?_ (fun _ => ?_))
theorem spec_l1Cur_body.mono : ∀ a0 a1 a2 a3 k, LeO (spec_l1Cur_body.f k a0 a1 a2 a3) (spec_l1Cur_body.f (k + 1) a0 a1 a2 a3) := by
 intro a0 a1 a2 a3 k; obtain ⟨ih0, ih1⟩ := spec_l1Cur_body.mono_l k
 unfold spec_l1Cur_body.f
 repeat' first
   | (with_reducible exact ih0 _ _ _ _ _)
   | (with_reducible exact ih1 _ _ _ _ _)
   | (with_reducible exact spec_l8Down.mono _ _)
   | (with_reducible exact spec_l8Edge.mono _ _)
   | (with_reducible exact spec_l8Put.mono _ _ _ _)
   | (with_reducible exact LeO.refl _)
   | (with_reducible exact LeO.none _)
   | (with_reducible refine LeO.ite ?_ ?_)
   | (with_reducible refine LeO.bind ?_ (fun _ => ?_))
def spec_l1Cur_body.T10 : Bool × List (List Nat × List Nat) := (true, [([], []), ([], []), ([], []), ([2], [2]), ([3], [3]), ([1, 4], [1, 4]), ([5], [5]), ([6], [6]), ([], []), ([], []), ([9], [9]), ([10], [10]), ([8, 11], [8, 11]), ([12], [12]), ([13], [13]), ([14], [14]), ([7, 15], [7, 15]), ([16], [16]), ([0, 17], [0, 17]), ([18, 18, 0, 1, 2, 3, 4, 5, 6, 7, 8, 9, 10, 11, 12, 13, 14, 15, 16, 17, 18], [0, 1, 2, 8, 9, 18])])
def spec_l1Cur_body.B10 : List Nat := [0, 0, 0, 4, 12, 30, 62, 126, 0, 0, 512, 1536, 3840, 7936, 16128, 32512, 65534, 131070, 262143, 524287]
theorem spec_l1Cur_body.tab10 : rtab .any (opsOf Try.f94 10) = spec_l1Cur_body.T10 := by kernel_rfl
theorem spec_l1Cur_body.bits10 : waitsOk spec_l1Cur_body.T10.2 spec_l1Cur_body.B10 = true := by kernel_rfl
def spec_l1Cur_body.T19 : Bool × List (List Nat × List Nat) := (true, [([], []), ([], []), ([], []), ([], []), ([2, 3], [2, 3]), ([4], [4]), ([5], [5]), ([], []), ([], []), ([7, 8], [7, 8]), ([9], [9]), ([10], [10]), ([11], [11]), ([6, 12], [6, 12]), ([0, 1, 0, 1, 2, 3, 4, 5, 6, 7, 8, 9, 10, 11, 12, 13], [0, 1]), ([14, 13, 0, 1, 2, 3, 4, 5, 6, 7, 8, 9, 10, 11, 12, 13], [13, 14])])
def spec_l1Cur_body.B19 : List Nat := [0, 0, 0, 0, 12, 28, 60, 0, 0, 384, 896, 1920, 3968, 8188, 16383, 32767]
theorem spec_l1Cur_body.tab19 : rtab .any (opsOf Try.f94 19) = spec_l1Cur_body.T19 := by kernel_rfl
theorem spec_l1Cur_body.bits19 : waitsOk spec_l1Cur_body.T19.2 spec_l1Cur_body.B19 = true := by kernel_rfl
set_option maxHeartbeats 8000000 in
set_option maxRecDepth 100000 in
theorem spec_l1Cur_body.calls (k : Nat) (g : Nat) (s0_0 : List Int) (s0_1 : Int) (s0_2 : Int) (a1 : Int) (r1 : List (S49)) (r2 : Int) (r3 : Int) (w0 w : World) (hI : IsS82 w0 w g s0_0 s0_1 s0_2) (hB : Below w0.heap.size w0 w) (h : spec_l1Cur_body.f k s0_0 s0_1 s0_2 a1 = some (r1, r2, r3)) :
  Calls Try.prog 94 #[.pointer (some ⟨g, 0, none⟩), .int .i64 a1] w fun e w' => ∃ v0_ : Value, e = .returned (v0_) ∧ Kd.R k49 49 w' w.heap.size (fun _ => True) v0_ r1 ∧ IsS82 w0 w' g s0_0 r2 r3 ∧ Below w0.heap.size w0 w' ∧ KeepBut w w' g none := by
 have hu49 := Try.underlying49; have HI0 := Aside0.mk hI; have HK := Aside0.mk (KeepBut.refl w g none); have HL := Aside0.mk hB.size; clear hI; have HW0 := Aside0.mk hB.size; have HB := Aside0.mk hB; clear hB; have H : ((spec_l1Cur_among.f s0_0 s0_1 s0_2 (([4, 5, 3, 2, 1, 7, 9, 12] : List Int))).bind fun bt197 => ((spec_l1Least.f bt197.1 a1).bind fun t200 => (spec_l1Cur_body.l0 k (([(⟨0, 0⟩ : S49)] : List (S49))) t200 s0_0 bt197.2.1 bt197.2.2))) = some (r1, r2, r3) := h; clear h; obtain ⟨y191, hy191⟩ : ∃ y_ : List (S49), y_ = (([(⟨0, 0⟩ : S49)] : List (S49))) := ⟨_, rfl⟩
 replace H : ((spec_l1Cur_among.f s0_0 s0_1 s0_2 (([4, 5, 3, 2, 1, 7, 9, 12] : List Int))).bind fun bt197 => ((spec_l1Least.f bt197.1 a1).bind fun t200 => (spec_l1Cur_body.l0 k y191 t200 s0_0 bt197.2.1 bt197.2.2))) = some (r1, r2, r3) := by first | (rw [hy191]; with_reducible exact H) | (have H2_ := (Option.bind_some _ _).symm.trans H; rw [hy191]; with_reducible exact H2_) | (have H2_ := (Option.bind_some _ _).symm.trans H; with_reducible exact H2_) | with_reducible exact H | (rw [hy191]; exact H) | exact H
 have Ny191 := Aside0.mk hy191; clear hy191; obtain ⟨y194, hy194⟩ : ∃ y_ : List Int, y_ = (([4, 5, 3, 2, 1, 7, 9, 12] : List Int)) := ⟨_, rfl⟩
 replace H : ((spec_l1Cur_among.f s0_0 s0_1 s0_2 y194).bind fun bt197 => ((spec_l1Least.f bt197.1 a1).bind fun t200 => (spec_l1Cur_body.l0 k y191 t200 s0_0 bt197.2.1 bt197.2.2))) = some (r1, r2, r3) := by first | (rw [hy194]; with_reducible exact H) | (have H2_ := (Option.bind_some _ _).symm.trans H; rw [hy194]; with_reducible exact H2_) | (have H2_ := (Option.bind_some _ _).symm.trans H; with_reducible exact H2_) | with_reducible exact H | (rw [hy194]; exact H) | exact H
 have Ny194 := Aside0.mk hy194; clear hy194; replace H := Option.bind_eq_some_iff.mp H; obtain ⟨⟨t197, t198, t199⟩, A30, H⟩ := H; replace H : ((spec_l1Least.f t197 a1).bind fun t200 => (spec_l1Cur_body.l0 k y191 t200 s0_0 t198 t199)) = some (r1, r2, r3) := H; have A3 := Aside0.mk A30; clear A30; replace H := Option.bind_eq_some_iff.mp H; obtain ⟨t200, A40, H⟩ := H; replace H : (spec_l1Cur_body.l0 k y191 t200 s0_0 t198 t199) = some (r1, r2, r3) := H; have A4 := Aside0.mk A40; clear A40; have H' := Aside0.mk H; clear H
 go_enter Try.func94, Try.ntmps94
 go_wp2_with (first | ((with_reducible refine gate_dst (N := 10) rfl ?_); refine Kd.R_lit k49 _ 49 ?hg (N := 10) ?hd (xs := ([(⟨0, 0⟩ : S49)] : List (S49))) (inner := [.int .i64 0, .int .i64 0]) (ok := fun _ => True) (okp := fun _ => True) ?hr ?hp (fun _ hk => hk) trivial (Below.refl _ _) (Nat.le_refl _) (by simp) ?_; (case hd => rfl); (case hg => rfl); (case hr => (go_simp; done)); (case hp => exact (Reps.c2 (show Kd.M k49 _ _ _ (⟨0, 0⟩ : S49) [.int .i64 0, .int .i64 0] from (k49_mkM _ _ _ (⟨0, 0⟩ : S49) )) (Reps.none _ _))); intro v192 w5 ho6 hb hg_ hnew_; clear hg_ hnew_; (rw [← Ny191.out] at ho6); have n0_ := Aside0.mk (Kd.R_lower ho6 (keep_size (w := w) (g := g) (row := none) (by repeat ((with_reducible exact HK.out))))); have n1_ := Aside0.mk (IsS82.below (by repeat ((with_reducible exact HI0.out))) hb); have n2_ := Aside0.mk (KeepBut.trans (by repeat ((with_reducible exact HK.out))) (KeepBut.of_below hb g none) (.inl rfl)); have n3_ := Aside0.mk (below_step (by repeat ((with_reducible exact HB.out))) hb); clear HI0; clear HK; clear HB; have HO193 := n0_; have HI0 := n1_; have HK := n2_; have HB := n3_; clear n0_ n1_ n2_ n3_; clear hb ho6) | ((with_reducible refine gate_dst (N := 12) rfl ?_); refine Kd.R_lit (Kd.int .i64) _ 3 ?hg (N := 12) ?hd (xs := ([4, 5, 3, 2, 1, 7, 9, 12] : List Int)) (inner := [.int .i64 4, .int .i64 5, .int .i64 3, .int .i64 2, .int .i64 1, .int .i64 7, .int .i64 9, .int .i64 12]) (ok := fun _ => True) (okp := fun _ => True) ?hr ?hp (fun _ hk => hk) trivial (Below.refl _ _) (Nat.le_refl _) (by simp) ?_; (case hd => rfl); (case hg => rfl); (case hr => (go_simp; done)); (case hp => exact (Reps.one (show Kd.M (Kd.int .i64) _ _ _ 4 [.int .i64 4] from rfl) (Reps.one (show Kd.M (Kd.int .i64) _ _ _ 5 [.int .i64 5] from rfl) (Reps.one (show Kd.M (Kd.int .i64) _ _ _ 3 [.int .i64 3] from rfl) (Reps.one (show Kd.M (Kd.int .i64) _ _ _ 2 [.int .i64 2] from rfl) (Reps.one (show Kd.M (Kd.int .i64) _ _ _ 1 [.int .i64 1] from rfl) (Reps.one (show Kd.M (Kd.int .i64) _ _ _ 7 [.int .i64 7] from rfl) (Reps.one (show Kd.M (Kd.int .i64) _ _ _ 9 [.int .i64 9] from rfl) (Reps.one (show Kd.M (Kd.int .i64) _ _ _ 12 [.int .i64 12] from rfl) (Reps.none _ _)))))))))); intro v195 w7 ho8 hb hg_ hnew_; clear hg_ hnew_; (rw [← Ny194.out] at ho8); have n0_ := Aside0.mk (Kd.R_below (by exact HO193.out) hb); have n1_ := Aside0.mk (Kd.R_lower ho8 (keep_size (w := w) (g := g) (row := none) (by repeat ((with_reducible exact HK.out))))); have n2_ := Aside0.mk (IsS82.below (by repeat ((with_reducible exact HI0.out))) hb); have n3_ := Aside0.mk (KeepBut.trans (by repeat ((with_reducible exact HK.out))) (KeepBut.of_below hb g none) (.inl rfl)); have n4_ := Aside0.mk (below_step (by repeat ((with_reducible exact HB.out))) hb); clear HO193; clear HI0; clear HK; clear HB; have HO193 := n0_; have HO196 := n1_; have HI0 := n2_; have HK := n3_; have HB := n4_; clear n0_ n1_ n2_ n3_ n4_; clear hb ho8; obtain ⟨Ao9, co9, eo9⟩ := Kd.R_slice HO196.out; subst eo9) | ((with_reducible refine gate_callee (f := 95) rfl ?_); refine goesL_ (some 13) rfl rfl Try.func95 (by kernel_rfl) rfl #[.pointer (some ⟨g, 0, none⟩), .slice Ao9 y194.length co9] rfl (by (try simp only [List.map_toArray, List.map_cons, List.map_nil]); rfl) ?_; (with_reducible refine (spec_l1Cur_among.calls g s0_0 s0_1 s0_2 _ _ y194 t197 t198 t199 w0 _ ?side1 ?side2 ?side3 ?side4 ?side5 A3.out).mono ?_); (case side1 => repeat ((with_reducible exact HI0.out))); (case side2 => repeat ((with_reducible exact HB.out))); (case side3 => repeat (exact (Kd.R_reads' HO196.out).2.2)); (case side4 => exact (Kd.R_reads' HO196.out).2.1); (case side5 => exact far_slice (IsS82.own_ne HI0.out HO196.out (by decide))); rintro e w10 ⟨rfl, hi, hb, hk⟩; refine ⟨_, rfl, ?_⟩; have n0_ := Aside0.mk (Kd.R_mono (Kd.R_keep (IsS82.apart (show IsS82 w0 _ g s0_0 s0_1 s0_2 from by repeat ((with_reducible exact HI0.out))) (by exact HO193.out) (by decide)) hk (fun _ h => h.2)) (fun _ h => h.1)); have n1_ := Aside0.mk (Kd.R_mono (Kd.R_keep (IsS82.apart (show IsS82 w0 _ g s0_0 s0_1 s0_2 from by repeat ((with_reducible exact HI0.out))) (by exact HO196.out) (by decide)) hk (fun _ h => h.2)) (fun _ h => h.1)); have n2_ := Aside0.mk (KeepBut.trans (by repeat ((with_reducible exact HK.out))) hk (.inl rfl)); have n3_ := Aside0.mk (hb); have n4_ := Aside0.mk (hi); clear HO193; clear HO196; clear HK; clear HB; clear HI0; have HO193 := n0_; have HO196 := n1_; have HK := n2_; have HB := n3_; have HI0 := n4_; clear n0_ n1_ n2_ n3_ n4_; (try clear hb); (try clear hb2); (try clear hk); (try clear hi)) | ((with_reducible refine gate_callee (f := 63) rfl ?_); refine goesL_ (some 15) rfl rfl Try.func63 (by kernel_rfl) rfl #[.int .i64 t197, .int .i64 a1] rfl (by (try simp only [List.map_toArray, List.map_cons, List.map_nil]); rfl) ?_; (with_reducible refine (spec_l1Least.calls t197 a1 t200 _ A4.out).mono ?_); rintro e w' ⟨rfl, ⟨nd, rfl⟩⟩; refine ⟨_, rfl, ?_⟩))
 (try simp only [Act.put, sA, sZ, sS])
 go_loopg [5] k (fun kq v5 w' => ∃ (x5_1 : List (S49)) (x1001_1 : Int) (x1002_1 : Int), Aside0 (spec_l1Cur_body.l0 kq x5_1 t200 s0_0 x1001_1 x1002_1 = some (r1, r2, r3)) ∧ Aside0 (kq ≤ k) ∧ Aside0 (Kd.R k49 49 w' w.heap.size (fun _ => True) v5 x5_1) ∧ Aside0 (IsS82 w0 w' g s0_0 x1001_1 x1002_1) ∧ Aside0 (KeepBut w w' g none) ∧ Aside0 (Below w0.heap.size w0 w'))
 case atStart => exact ⟨(y191), (t198), (t199), H', ⟨Nat.le_refl _⟩, ⟨by (with_reducible repeat (apply Kd.R_drewN)); exact HO193.out⟩, ⟨by repeat ((with_reducible first | exact HI0.out | apply IsS82.drewN))⟩, ⟨by repeat ((with_reducible first | exact HK.out | apply keep_drewN))⟩, ⟨by repeat ((with_reducible first | exact HB.out | apply pw_below_drewN))⟩⟩
 case round =>
  clear H'; (try clear c2); (try clear p2); (try clear c6); (try clear c9); obtain ⟨x5_1, x1001_1, x1002_1, HA, HK1, HO_5, HI0, HK, HB⟩ := hrel
  cases gk with
  | zero => exact absurd HA.out (by simp [spec_l1Cur_body.l0])
  | succ k1 =>
   have H := HA.out; clear HA; simp only [spec_l1Cur_body.l0] at H
   by_cases c11 : (x5_1.length : Int) < t200
   ·rw [if_pos c11] at H
    have c11b0 : decide ((x5_1.length : Int) < t200) = true := decide_eq_true c11; clear c11; replace H := Option.bind_eq_some_iff.mp H; obtain ⟨t201, A120, H⟩ := H; replace H : ((spec_l1Cur_pick.f s0_0 x1001_1 x1002_1 (t201.length : Int)).bind fun bt204 => (if 0 ≤ bt204.1 then (if bt204.1 < (t201.length : Int) then ((spec_l8Put.f k1 x5_1 ((rd_T49 t201 bt204.1).f0) ((rd_T49 t201 bt204.1).f1)).bind fun t208 => ((spec_l8Down.f k1 t208).bind fun t211 => (spec_l1Cur_body.l0 k1 t211 t200 s0_0 bt204.2.1 bt204.2.2))) else (none)) else (none))) = some (r1, r2, r3) := H; have A12 := Aside0.mk A120; clear A120; replace H := Option.bind_eq_some_iff.mp H; obtain ⟨⟨t204, t205, t206⟩, A130, H⟩ := H; replace H : (if 0 ≤ t204 then (if t204 < (t201.length : Int) then ((spec_l8Put.f k1 x5_1 ((rd_T49 t201 t204).f0) ((rd_T49 t201 t204).f1)).bind fun t208 => ((spec_l8Down.f k1 t208).bind fun t211 => (spec_l1Cur_body.l0 k1 t211 t200 s0_0 t205 t206))) else (none)) else (none)) = some (r1, r2, r3) := H; have A13 := Aside0.mk A130; clear A130
    by_cases c14 : 0 ≤ t204
    ·rw [if_pos c14] at H
     have c14b0 : decide (0 ≤ t204) = true := decide_eq_true c14; clear c14
     by_cases c15 : t204 < (t201.length : Int)
     ·rw [if_pos c15] at H
      have c15b0 : decide (t204 < (t201.length : Int)) = true := decide_eq_true c15; clear c15; replace H := Option.bind_eq_some_iff.mp H; obtain ⟨t208, A160, H⟩ := H; replace H : ((spec_l8Down.f k1 t208).bind fun t211 => (spec_l1Cur_body.l0 k1 t211 t200 s0_0 t205 t206)) = some (r1, r2, r3) := H; have A16 := Aside0.mk A160; clear A160; replace H := Option.bind_eq_some_iff.mp H; obtain ⟨t211, A170, H⟩ := H; replace H : (spec_l1Cur_body.l0 k1 t211 t200 s0_0 t205 t206) = some (r1, r2, r3) := H; have A17 := Aside0.mk A170; clear A170; have H' := Aside0.mk H; clear H; obtain ⟨Ao18, co18, eo18⟩ := Kd.R_slice HO_5.out; subst eo18
      go_wp2_with (first | ((with_reducible refine gate_callee (f := 90) rfl ?_); refine goesL_ (some 21) rfl rfl Try.func90 (by kernel_rfl) rfl #[.slice Ao18 x5_1.length co18] rfl (by (try simp only [List.map_toArray, List.map_cons, List.map_nil]); rfl) ?_; (with_reducible refine (spec_l8Edge.calls k1 _ _ x5_1 t201 _ ?side1 ?side2 A12.out).mono ?_); (case side1 => repeat (exact (Kd.R_reads' HO_5.out).2.2)); (case side2 => exact (Kd.R_reads' HO_5.out).2.1); rintro e w19 ⟨v202, rfl, ho0, hb⟩; refine ⟨_, rfl, ?_⟩; have n0_ := Aside0.mk (Kd.R_elder' (by exact HO_5.out) (Kd.R_base ho0) hb); have n1_ := Aside0.mk (Kd.R_lower (Kd.R_new' ho0 (Kd.R_lt (by exact HO_5.out))) (keep_size (w := w) (g := g) (row := none) (by repeat ((with_reducible exact HK.out))))); have n2_ := Aside0.mk (IsS82.below (by repeat ((with_reducible exact HI0.out))) hb); have n3_ := Aside0.mk (KeepBut.trans (by repeat ((with_reducible exact HK.out))) (KeepBut.of_below hb g none) (.inl rfl)); have n4_ := Aside0.mk (below_step (by repeat ((with_reducible exact HB.out))) hb); clear HO_5; clear HI0; clear HK; clear HB; have HO_5 := n0_; have HO203 := n1_; have HI0 := n2_; have HK := n3_; have HB := n4_; clear n0_ n1_ n2_ n3_ n4_; (try clear hb); (try clear hb2); (try clear hk); (try clear hi); (try clear ho0); obtain ⟨Ao20, co20, eo20⟩ := Kd.R_slice HO203.out; subst eo20) | ((with_reducible refine gate_callee (f := 104) rfl ?_); refine goesL_ (some 27) rfl rfl Try.func104 (by kernel_rfl) rfl #[.pointer (some ⟨g, 0, none⟩), .int .i64 (t201.length : Int)] rfl (by (try simp only [List.map_toArray, List.map_cons, List.map_nil]); rfl) ?_; (with_reducible refine (spec_l1Cur_pick.calls g s0_0 x1001_1 x1002_1 (t201.length : Int) t204 t205 t206 w0 _ ?side1 ?side2 A13.out).mono ?_); (case side1 => repeat ((with_reducible exact HI0.out))); (case side2 => repeat ((with_reducible exact HB.out))); rintro e w21 ⟨rfl, hi, hb, hk⟩; refine ⟨_, rfl, ?_⟩; have n0_ := Aside0.mk (Kd.R_mono (Kd.R_keep (IsS82.apart (show IsS82 w0 _ g s0_0 x1001_1 x1002_1 from by repeat ((with_reducible exact HI0.out))) (by exact HO_5.out) (by decide)) hk (fun _ h => h.2)) (fun _ h => h.1)); have n1_ := Aside0.mk (Kd.R_mono (Kd.R_keep (IsS82.apart (show IsS82 w0 _ g s0_0 x1001_1 x1002_1 from by repeat ((with_reducible exact HI0.out))) (by exact HO203.out) (by decide)) hk (fun _ h => h.2)) (fun _ h => h.1)); have n2_ := Aside0.mk (KeepBut.trans (by repeat ((with_reducible exact HK.out))) hk (.inl rfl)); have n3_ := Aside0.mk (hb); have n4_ := Aside0.mk (hi); clear HO_5; clear HO203; clear HK; clear HB; clear HI0; have HO_5 := n0_; have HO203 := n1_; have HK := n2_; have HB := n3_; have HI0 := n4_; clear n0_ n1_ n2_ n3_ n4_; (try clear hb); (try clear hb2); (try clear hk); (try clear hi); have p207 : 0 ≤ (t204 : Int) := of_decide_eq_true (by (with_reducible assumption)); have q207 : t204 < (t201.length : Int) := of_decide_eq_true (by (with_reducible assumption)); obtain ⟨ad207, e207, hx207_0, hx207_1⟩ := at_T49 (Kd.R_reads' HO203.out).2.2 t204 p207 q207; cases e207; replace p207 := eq_true p207; replace q207 := eq_true q207) | ((with_reducible refine gate_callee (f := 91) rfl ?_); refine goesL_ (some 30) rfl rfl Try.func91 (by kernel_rfl) rfl #[.slice Ao18 x5_1.length co18, .agg #[.int .i64 ((rd_T49 t201 t204).f0), .int .i64 ((rd_T49 t201 t204).f1)]] rfl (by (try simp only [List.map_toArray, List.map_cons, List.map_nil]); rfl) ?_; (with_reducible refine (spec_l8Put.calls k1 _ _ x5_1 ((rd_T49 t201 t204).f0) ((rd_T49 t201 t204).f1) t208 _ ?side1 ?side2 A16.out).mono ?_); (case side1 => repeat (exact (Kd.R_reads' HO_5.out).2.2)); (case side2 => exact (Kd.R_reads' HO_5.out).2.1); rintro e w22 ⟨v209, rfl, ho0, hb⟩; refine ⟨_, rfl, ?_⟩; have n0_ := Aside0.mk (Kd.R_elder' (by exact HO_5.out) (Kd.R_base ho0) hb); have n1_ := Aside0.mk (Kd.R_elder' (by exact HO203.out) (Kd.R_base ho0) hb); have n2_ := Aside0.mk (Kd.R_lower (Kd.R_new' (Kd.R_new' ho0 (Kd.R_lt (by exact HO_5.out))) (Kd.R_lt (by exact HO203.out))) (keep_size (w := w) (g := g) (row := none) (by repeat ((with_reducible exact HK.out))))); have n3_ := Aside0.mk (IsS82.below (by repeat ((with_reducible exact HI0.out))) hb); have n4_ := Aside0.mk (KeepBut.trans (by repeat ((with_reducible exact HK.out))) (KeepBut.of_below hb g none) (.inl rfl)); have n5_ := Aside0.mk (below_step (by repeat ((with_reducible exact HB.out))) hb); clear HO_5; clear HO203; clear HI0; clear HK; clear HB; have HO_5 := n0_; have HO203 := n1_; have HO210 := n2_; have HI0 := n3_; have HK := n4_; have HB := n5_; clear n0_ n1_ n2_ n3_ n4_ n5_; (try clear hb); (try clear hb2); (try clear hk); (try clear hi); (try clear ho0); obtain ⟨Ao23, co23, eo23⟩ := Kd.R_slice HO210.out; subst eo23) | ((with_reducible refine gate_callee (f := 68) rfl ?_); refine goesL_ (some 31) rfl rfl Try.func68 (by kernel_rfl) rfl #[.slice Ao23 t208.length co23] rfl (by (try simp only [List.map_toArray, List.map_cons, List.map_nil]); rfl) ?_; (with_reducible refine (spec_l8Down.calls k1 _ _ t208 t211 _ ?side1 ?side2 A17.out).mono ?_); (case side1 => repeat (exact (Kd.R_reads' HO210.out).2.2)); (case side2 => exact (Kd.R_reads' HO210.out).2.1); rintro e w24 ⟨v212, rfl, ho0, hb⟩; refine ⟨_, rfl, ?_⟩; have n0_ := Aside0.mk (Kd.R_elder' (by exact HO_5.out) (Kd.R_base ho0) hb); have n1_ := Aside0.mk (Kd.R_elder' (by exact HO203.out) (Kd.R_base ho0) hb); have n2_ := Aside0.mk (Kd.R_elder' (by exact HO210.out) (Kd.R_base ho0) hb); have n3_ := Aside0.mk (Kd.R_lower (Kd.R_new' (Kd.R_new' (Kd.R_new' ho0 (Kd.R_lt (by exact HO_5.out))) (Kd.R_lt (by exact HO203.out))) (Kd.R_lt (by exact HO210.out))) (keep_size (w := w) (g := g) (row := none) (by repeat ((with_reducible exact HK.out))))); have n4_ := Aside0.mk (IsS82.below (by repeat ((with_reducible exact HI0.out))) hb); have n5_ := Aside0.mk (KeepBut.trans (by repeat ((with_reducible exact HK.out))) (KeepBut.of_below hb g none) (.inl rfl)); have n6_ := Aside0.mk (below_step (by repeat ((with_reducible exact HB.out))) hb); clear HO_5; clear HO203; clear HO210; clear HI0; clear HK; clear HB; have HO_5 := n0_; have HO203 := n1_; have HO210 := n2_; have HO213 := n3_; have HI0 := n4_; have HK := n5_; have HB := n6_; clear n0_ n1_ n2_ n3_ n4_ n5_ n6_; (try clear hb); (try clear hb2); (try clear hk); (try clear hi); (try clear ho0)))
      go_roundg k1
      case measure => have := HK1.out; omega
      case rel => exact ⟨(t211), (t205), (t206), H', ⟨by have := HK1.out; omega⟩, ⟨by exact Kd.R_mono HO213.out (fun _ hk => trivial)⟩, ⟨by repeat ((with_reducible exact HI0.out))⟩, ⟨by repeat ((with_reducible exact HK.out))⟩, ⟨by repeat ((with_reducible exact HB.out))⟩⟩
     ·rw [if_neg c15] at H
      exact absurd H (by simp)
    ·rw [if_neg c14] at H
     exact absurd H (by simp)
   ·rw [if_neg c11] at H
    have c11b0 : decide ((x5_1.length : Int) < t200) = false := decide_eq_false c11; clear c11; replace H := Option.bind_eq_some_iff.mp H; obtain ⟨⟨t214, t215, t216⟩, A250, H⟩ := H; replace H : (if t214 = 0 then ((spec_l1Cur_pick.f s0_0 t215 t216 (x5_1.length : Int)).bind fun bt217 => ((spec_l1Cur_among.f s0_0 bt217.2.1 bt217.2.2 (([(-1), 12, 4611686018427387904] : List Int))).bind fun bt223 => (if 0 ≤ bt217.1 then (if bt217.1 < (x5_1.length : Int) then (some ((x5_1.set (bt217.1 : Int).toNat (⟨bt223.1, 0⟩ : S49)), bt223.2.1, bt223.2.2)) else (none)) else (none)))) else (if t214 = 1 then (if 0 ≤ (wrap64 ((x5_1.length : Int) - 1)) then (if (wrap64 ((x5_1.length : Int) - 1)) < (x5_1.length : Int) then (if x5_1.length < 8796093022208 then (some ((x5_1 ++ [(⟨(rd_T49 x5_1 (wrap64 ((x5_1.length : Int) - 1))).f0, wrap64 (((rd_T49 x5_1 (wrap64 ((x5_1.length : Int) - 1))).f1) + 2)⟩ : S49)]), t215, t216)) else (none)) else (none)) else (none)) else (if t214 = 2 then (if 0 < (x5_1.length : Int) then (if x5_1.length < 8796093022208 then (some ((x5_1 ++ [(⟨(rd_T49 x5_1 0).f0, (rd_T49 x5_1 0).f1⟩ : S49)]), t215, t216)) else (none)) else (none)) else (if t214 = 3 then (some ((([] : List (S49))), t215, t216)) else (if t214 = 4 then (spec_l1Cur_body.l1 k1 x5_1 0 s0_0 t215 t216) else (some (x5_1, t215, t216))))))) = some (r1, r2, r3) := H; have A25 := Aside0.mk A250; clear A250
    by_cases c26 : t214 = 0
    ·rw [if_pos c26] at H
     have c26b0 : (t214 == 0) = true := beq_iff_eq.mpr c26; have c26b1 : (t214 != 0) = false := bne_eq_false_iff_eq.mpr c26; clear c26; replace H := Option.bind_eq_some_iff.mp H; obtain ⟨⟨t217, t218, t219⟩, A270, H⟩ := H; replace H : ((spec_l1Cur_among.f s0_0 t218 t219 (([(-1), 12, 4611686018427387904] : List Int))).bind fun bt223 => (if 0 ≤ t217 then (if t217 < (x5_1.length : Int) then (some ((x5_1.set (t217 : Int).toNat (⟨bt223.1, 0⟩ : S49)), bt223.2.1, bt223.2.2)) else (none)) else (none))) = some (r1, r2, r3) := H; have A27 := Aside0.mk A270; clear A270; obtain ⟨y220, hy220⟩ : ∃ y_ : List Int, y_ = (([(-1), 12, 4611686018427387904] : List Int)) := ⟨_, rfl⟩
     replace H : ((spec_l1Cur_among.f s0_0 t218 t219 y220).bind fun bt223 => (if 0 ≤ t217 then (if t217 < (x5_1.length : Int) then (some ((x5_1.set (t217 : Int).toNat (⟨bt223.1, 0⟩ : S49)), bt223.2.1, bt223.2.2)) else (none)) else (none))) = some (r1, r2, r3) := by first | (rw [hy220]; with_reducible exact H) | (have H2_ := (Option.bind_some _ _).symm.trans H; rw [hy220]; with_reducible exact H2_) | (have H2_ := (Option.bind_some _ _).symm.trans H; with_reducible exact H2_) | with_reducible exact H | (rw [hy220]; exact H) | exact H
     have Ny220 := Aside0.mk hy220; clear hy220; replace H := Option.bind_eq_some_iff.mp H; obtain ⟨⟨t223, t224, t225⟩, A280, H⟩ := H; replace H : (if 0 ≤ t217 then (if t217 < (x5_1.length : Int) then (some ((x5_1.set (t217 : Int).toNat (⟨t223, 0⟩ : S49)), t224, t225)) else (none)) else (none)) = some (r1, r2, r3) := H; have A28 := Aside0.mk A280; clear A280
     by_cases c29 : 0 ≤ t217
     ·rw [if_pos c29] at H
      have c29b0 : decide (0 ≤ t217) = true := decide_eq_true c29; clear c29
      by_cases c30 : t217 < (x5_1.length : Int)
      ·rw [if_pos c30] at H
       have c30b0 : decide (t217 < (x5_1.length : Int)) = true := decide_eq_true c30; clear c30; obtain ⟨y226, hy226⟩ : ∃ y_ : List (S49), y_ = (x5_1.set (t217 : Int).toNat (⟨t223, 0⟩ : S49)) := ⟨_, rfl⟩
       replace H : (some (y226, t224, t225)) = some (r1, r2, r3) := by first | (rw [hy226]; with_reducible exact H) | (have H2_ := (Option.bind_some _ _).symm.trans H; rw [hy226]; with_reducible exact H2_) | (have H2_ := (Option.bind_some _ _).symm.trans H; with_reducible exact H2_) | with_reducible exact H | (rw [hy226]; exact H) | exact H
       have Ny226 := Aside0.mk hy226; clear hy226; simp only [Option.some.injEq, Prod.mk.injEq] at H; obtain ⟨rfl, rfl, rfl⟩ := H; obtain ⟨Ao32, co32, eo32⟩ := Kd.R_slice HO_5.out; subst eo32
       go_wp2_with (first | ((with_reducible refine gate_callee (f := 104) rfl ?_); refine goesL_ (some 33) rfl rfl Try.func104 (by kernel_rfl) rfl #[.pointer (some ⟨g, 0, none⟩), .int .i64 50] rfl (by (try simp only [List.map_toArray, List.map_cons, List.map_nil]); rfl) ?_; (with_reducible refine (spec_l1Cur_pick.calls g s0_0 x1001_1 x1002_1 50 t214 t215 t216 w0 _ ?side1 ?side2 A25.out).mono ?_); (case side1 => repeat ((with_reducible exact HI0.out))); (case side2 => repeat ((with_reducible exact HB.out))); rintro e w33 ⟨rfl, hi, hb, hk⟩; refine ⟨_, rfl, ?_⟩; have n0_ := Aside0.mk (Kd.R_mono (Kd.R_keep (IsS82.apart (show IsS82 w0 _ g s0_0 x1001_1 x1002_1 from by repeat ((with_reducible exact HI0.out))) (by exact HO_5.out) (by decide)) hk (fun _ h => h.2)) (fun _ h => h.1)); have n1_ := Aside0.mk (KeepBut.trans (by repeat ((with_reducible exact HK.out))) hk (.inl rfl)); have n2_ := Aside0.mk (hb); have n3_ := Aside0.mk (hi); clear HO_5; clear HK; clear HB; clear HI0; have HO_5 := n0_; have HK := n1_; have HB := n2_; have HI0 := n3_; clear n0_ n1_ n2_ n3_; (try clear hb); (try clear hb2); (try clear hk); (try clear hi)) | ((with_reducible refine gate_callee (f := 104) rfl ?_); refine goesL_ (some 40) rfl rfl Try.func104 (by kernel_rfl) rfl #[.pointer (some ⟨g, 0, none⟩), .int .i64 (x5_1.length : Int)] rfl (by (try simp only [List.map_toArray, List.map_cons, List.map_nil]); rfl) ?_; (with_reducible refine (spec_l1Cur_pick.calls g s0_0 t215 t216 (x5_1.length : Int) t217 t218 t219 w0 _ ?side1 ?side2 A27.out).mono ?_); (case side1 => repeat ((with_reducible exact HI0.out))); (case side2 => repeat ((with_reducible exact HB.out))); rintro e w34 ⟨rfl, hi, hb, hk⟩; refine ⟨_, rfl, ?_⟩; have n0_ := Aside0.mk (Kd.R_mono (Kd.R_keep (IsS82.apart (show IsS82 w0 _ g s0_0 t215 t216 from by repeat ((with_reducible exact HI0.out))) (by exact HO_5.out) (by decide)) hk (fun _ h => h.2)) (fun _ h => h.1)); have n1_ := Aside0.mk (KeepBut.trans (by repeat ((with_reducible exact HK.out))) hk (.inl rfl)); have n2_ := Aside0.mk (hb); have n3_ := Aside0.mk (hi); clear HO_5; clear HK; clear HB; clear HI0; have HO_5 := n0_; have HK := n1_; have HB := n2_; have HI0 := n3_; clear n0_ n1_ n2_ n3_; (try clear hb); (try clear hb2); (try clear hk); (try clear hi)) | ((with_reducible refine gate_dst (N := 42) rfl ?_); refine Kd.R_lit (Kd.int .i64) _ 3 ?hg (N := 42) ?hd (xs := ([(-1), 12, 4611686018427387904] : List Int)) (inner := [.int .i64 (-1), .int .i64 12, .int .i64 4611686018427387904]) (ok := fun _ => True) (okp := fun _ => True) ?hr ?hp (fun _ hk => hk) trivial (Below.refl _ _) (Nat.le_refl _) (by simp) ?_; (case hd => rfl); (case hg => rfl); (case hr => (go_simp; done)); (case hp => exact (Reps.one (show Kd.M (Kd.int .i64) _ _ _ (-1) [.int .i64 (-1)] from rfl) (Reps.one (show Kd.M (Kd.int .i64) _ _ _ 12 [.int .i64 12] from rfl) (Reps.one (show Kd.M (Kd.int .i64) _ _ _ 4611686018427387904 [.int .i64 4611686018427387904] from rfl) (Reps.none _ _))))); intro v221 w35 ho36 hb hg_ hnew_; clear hg_ hnew_; (rw [← Ny220.out] at ho36); have n0_ := Aside0.mk (Kd.R_below (by exact HO_5.out) hb); have n1_ := Aside0.mk (Kd.R_lower ho36 (keep_size (w := w) (g := g) (row := none) (by repeat ((with_reducible exact HK.out))))); have n2_ := Aside0.mk (IsS82.below (by repeat ((with_reducible exact HI0.out))) hb); have n3_ := Aside0.mk (KeepBut.trans (by repeat ((with_reducible exact HK.out))) (KeepBut.of_below hb g none) (.inl rfl)); have n4_ := Aside0.mk (below_step (by repeat ((with_reducible exact HB.out))) hb); clear HO_5; clear HI0; clear HK; clear HB; have HO_5 := n0_; have HO222 := n1_; have HI0 := n2_; have HK := n3_; have HB := n4_; clear n0_ n1_ n2_ n3_ n4_; clear hb ho36; obtain ⟨Ao37, co37, eo37⟩ := Kd.R_slice HO222.out; subst eo37) | ((with_reducible refine gate_callee (f := 95) rfl ?_); refine goesL_ (some 43) rfl rfl Try.func95 (by kernel_rfl) rfl #[.pointer (some ⟨g, 0, none⟩), .slice Ao37 y220.length co37] rfl (by (try simp only [List.map_toArray, List.map_cons, List.map_nil]); rfl) ?_; (with_reducible refine (spec_l1Cur_among.calls g s0_0 t218 t219 _ _ y220 t223 t224 t225 w0 _ ?side1 ?side2 ?side3 ?side4 ?side5 A28.out).mono ?_); (case side1 => repeat ((with_reducible exact HI0.out))); (case side2 => repeat ((with_reducible exact HB.out))); (case side3 => repeat (exact (Kd.R_reads' HO222.out).2.2)); (case side4 => exact (Kd.R_reads' HO222.out).2.1); (case side5 => exact far_slice (IsS82.own_ne HI0.out HO222.out (by decide))); rintro e w38 ⟨rfl, hi, hb, hk⟩; refine ⟨_, rfl, ?_⟩; have n0_ := Aside0.mk (Kd.R_mono (Kd.R_keep (IsS82.apart (show IsS82 w0 _ g s0_0 t218 t219 from by repeat ((with_reducible exact HI0.out))) (by exact HO_5.out) (by decide)) hk (fun _ h => h.2)) (fun _ h => h.1)); have n1_ := Aside0.mk (Kd.R_mono (Kd.R_keep (IsS82.apart (show IsS82 w0 _ g s0_0 t218 t219 from by repeat ((with_reducible exact HI0.out))) (by exact HO222.out) (by decide)) hk (fun _ h => h.2)) (fun _ h => h.1)); have n2_ := Aside0.mk (KeepBut.trans (by repeat ((with_reducible exact HK.out))) hk (.inl rfl)); have n3_ := Aside0.mk (hb); have n4_ := Aside0.mk (hi); clear HO_5; clear HO222; clear HK; clear HB; clear HI0; have HO_5 := n0_; have HO222 := n1_; have HK := n2_; have HB := n3_; have HI0 := n4_; clear n0_ n1_ n2_ n3_ n4_; (try clear hb); (try clear hb2); (try clear hk); (try clear hi); have p31 : 0 ≤ (t217 : Int) := of_decide_eq_true (by (with_reducible assumption)); have q31 : (t217 : Int) < ((x5_1.length : Int) : Int) := of_decide_eq_true (by (with_reducible assumption)); obtain ⟨go31, co31, eo31, gb31, gl31, cl31, HG31⟩ := Kd.R_form HO_5.out (by omega); (first | cases eo31 | (injection eo31 with ea_ en_ ec_; (fail); subst ec_; clear en_)); have GB31 := Aside0.mk gb31; have GG31 := Aside0.mk HG31; clear gb31 gl31 HG31; obtain ⟨ce31, hcl31, hM31, hcc31, hfr31⟩ := Kd.R_elem HO_5.out z49 (t217 : Int) p31 q31; obtain rfl := k49_openM hM31; have hx31_0 : w38.cell? ⟨go31, (t217 : Int).toNat * 2, none⟩ = some (.int .i64 ((rd_T49 x5_1 t217).f0)) := hcc31 0 _ rfl; have hx31_1 : w38.cell? ⟨go31, (t217 : Int).toNat * 2 + 1, none⟩ = some (.int .i64 ((rd_T49 x5_1 t217).f1)) := hcc31 1 _ rfl; have hf31_0 : w38.frozen? ⟨go31, (t217 : Int).toNat * 2, none⟩ = false := hfr31 0; have hf31_1 : w38.frozen? ⟨go31, (t217 : Int).toNat * 2 + 1, none⟩ = false := hfr31 1; clear hcl31 hcc31 hfr31 hM31; replace p31 := eq_true p31; replace q31 := eq_true q31; have HX39 := Aside0.mk (show Kd.R k49 49 w38 w.heap.size (fun _ => True) (.slice (some ⟨go31, 0, none⟩) x5_1.length co32) x5_1 from (by exact HO_5.out)); obtain ⟨ce39, hcl39, hM39, hcc39, hfr39⟩ := Kd.R_elem HX39.out z49 (t217 : Int) (of_decide_eq_true (by (with_reducible assumption))) (by have h_ : (t217 : Int) < ((x5_1.length : Int) : Int) := of_decide_eq_true (by (with_reducible assumption)); exact h_); obtain rfl := k49_openM hM39; have HP39 := Kd.R_seg HX39.out (t217 : Int) (of_decide_eq_true (by (with_reducible assumption))) (by have h_ : (t217 : Int) < ((x5_1.length : Int) : Int) := of_decide_eq_true (by (with_reducible assumption)); exact h_) (seg := [.int .i64 t223, .int .i64 0]) (j := 0) hcl39 hcc39 (show 2 ≤ 2 from by decide) (x' := (⟨t223, 0⟩ : S49)) (k49_mkM _ _ _ (⟨t223, 0⟩ : S49) ) (fun _ hk => hk); have hx39_0 := hcc39 0 _ rfl; (try simp only [show (k49).sz = 2 from rfl, Nat.mul_one, Nat.add_zero] at hx39_0); have hf39_0 := hfr39 0; (try simp only [show (k49).sz = 2 from rfl, Nat.mul_one, Nat.add_zero] at hf39_0); have hx39_1 := hcc39 1 _ rfl; (try simp only [show (k49).sz = 2 from rfl, Nat.mul_one, Nat.add_zero] at hx39_1); have hf39_1 := hfr39 1; (try simp only [show (k49).sz = 2 from rfl, Nat.mul_one, Nat.add_zero] at hf39_1); clear hcl39 hcc39 hfr39 hM39) | ((with_reducible refine gate_store (t := 49) (p := 45) rfl ?_); refine store_event (t := 49) (p := 45) (v := ?vo_w40) (w1 := ((w38.setCell ⟨go31, (t217 : Int).toNat * 2, none⟩ (.int .i64 t223)).setCell ⟨go31, (t217 : Int).toNat * 2 + 1, none⟩ (.int .i64 0))) ?hg ?ho ?hn ?hr ?_; (case ho => rfl); (case hg => rfl); (case hn => rfl); (case hr => (go_simp; done)); intro w40 hw; have hg : w38.grownBy w40 (some go31) := (by rw [hw]; exact HP39.2); have hp_ : Kd.R k49 49 w40 w.heap.size (fun _ => True) (.slice (some ⟨go31, 0, none⟩) x5_1.length co32) y226 := (by rw [hw, Ny226.out]; exact HP39.1); clear HP39; have n0_ := Aside0.mk (hp_); have n1_ := Aside0.mk (IsS82.grown (by repeat ((with_reducible exact HI0.out))) hg (IsS82.own_ne HI0.out HO_5.out (by decide))); have n2_ := Aside0.mk (Kd.R_over' (v := (.slice (some ⟨go31, 0, none⟩) x5_1.length co32)) (by exact HO222.out) (Kd.R_typed HO_5.out) (by decide) hg); have n3_ := Aside0.mk ((by rw [hw]; exact below_set (below_set (HB.out) (Nat.le_trans HL.out GB31.out)) (Nat.le_trans HL.out GB31.out) : Below w0.heap.size w0 w40)); have n4_ := Aside0.mk (KeepBut.trans (by repeat ((with_reducible exact HK.out))) (KeepBut.of_grown hg g) (Kd.R_base2 HO_5.out)); clear HO_5; clear HI0; clear HO222; clear HB; clear HK; have HO_5 := n0_; have HI0 := n1_; have HO222 := n2_; have HB := n3_; have HK := n4_; clear n0_ n1_ n2_ n3_ n4_; clear hg hw hp_))
       go_ret; exact ⟨_, by first | rfl | (simp [errW_none, errW_some] <;> rfl) | (simp [*, errW_none, errW_some] <;> rfl), by exact HO_5.out, by repeat ((with_reducible exact HI0.out)), by repeat ((with_reducible exact HB.out)), by repeat ((with_reducible exact HK.out))⟩
      ·rw [if_neg c30] at H
       exact absurd H (by simp)
     ·rw [if_neg c29] at H
      exact absurd H (by simp)
    ·rw [if_neg c26] at H
     have c26b0 : (t214 == 0) = false := beq_eq_false_iff_ne.mpr c26; have c26b1 : (t214 != 0) = true := bne_iff_ne.mpr c26
     by_cases c41 : t214 = 1
     ·rw [if_pos c41] at H
      have c41b0 : (t214 == 1) = true := beq_iff_eq.mpr c41; have c41b1 : (t214 != 1) = false := bne_eq_false_iff_eq.mpr c41; clear c41; obtain ⟨ji42, hji42⟩ : ∃ j_ : Int, (wrap64 ((x5_1.length : Int) - 1)) = j_ := ⟨_, rfl⟩
      replace H : (if 0 ≤ (ji42) then (if (ji42) < (x5_1.length : Int) then (if x5_1.length < 8796093022208 then (some ((x5_1 ++ [(⟨(rd_T49 x5_1 (ji42)).f0, wrap64 (((rd_T49 x5_1 (ji42)).f1) + 2)⟩ : S49)]), t215, t216)) else (none)) else (none)) else (none)) = some (r1, r2, r3) := by first | (rw [hji42] at H; exact H) | (simp only [hji42] at H ⊢; exact H)
      (try rw [hji42] at A25)
      have hji42w : (IntKind.i64.wrap ((x5_1.length : Int) - 1)) = ji42 := (i64_w _).trans hji42
      by_cases c43 : 0 ≤ (ji42)
      ·rw [if_pos c43] at H
       have c43b0 : decide (0 ≤ (ji42)) = true := decide_eq_true c43; clear c43
       by_cases c44 : (ji42) < (x5_1.length : Int)
       ·rw [if_pos c44] at H
        have c44b0 : decide ((ji42) < (x5_1.length : Int)) = true := decide_eq_true c44; clear c44
        by_cases c45 : x5_1.length < 8796093022208
        ·rw [if_pos c45] at H
         have LMc45 := Aside0.mk c45; clear c45; obtain ⟨y229, hy229⟩ : ∃ y_ : List (S49), y_ = (x5_1 ++ [(⟨(rd_T49 x5_1 (ji42)).f0, wrap64 (((rd_T49 x5_1 (ji42)).f1) + 2)⟩ : S49)]) := ⟨_, rfl⟩
         replace H : (some (y229, t215, t216)) = some (r1, r2, r3) := by first | (rw [hy229]; with_reducible exact H) | (have H2_ := (Option.bind_some _ _).symm.trans H; rw [hy229]; with_reducible exact H2_) | (have H2_ := (Option.bind_some _ _).symm.trans H; with_reducible exact H2_) | with_reducible exact H | (rw [hy229]; exact H) | exact H
         have Ny229 := Aside0.mk hy229; clear hy229; simp only [Option.some.injEq, Prod.mk.injEq] at H; obtain ⟨rfl, rfl, rfl⟩ := H; obtain ⟨Ao46, co46, eo46⟩ := Kd.R_slice HO_5.out; subst eo46
         try go_wp2_with (((with_reducible refine gate_callee (f := 104) rfl ?_); refine goesL_ (some 33) rfl rfl Try.func104 (by kernel_rfl) rfl #[.pointer (some ⟨g, 0, none⟩), .int .i64 50] rfl (by (try simp only [List.map_toArray, List.map_cons, List.map_nil]); rfl) ?_; (with_reducible refine (spec_l1Cur_pick.calls g s0_0 x1001_1 x1002_1 50 t214 t215 t216 w0 _ ?side1 ?side2 A25.out).mono ?_); (case side1 => repeat ((with_reducible exact HI0.out))); (case side2 => repeat ((with_reducible exact HB.out))); rintro e w47 ⟨rfl, hi, hb, hk⟩; refine ⟨_, rfl, ?_⟩; have n0_ := Aside0.mk (Kd.R_mono (Kd.R_keep (IsS82.apart (show IsS82 w0 _ g s0_0 x1001_1 x1002_1 from by repeat ((with_reducible exact HI0.out))) (by exact HO_5.out) (by decide)) hk (fun _ h => h.2)) (fun _ h => h.1)); have n1_ := Aside0.mk (KeepBut.trans (by repeat ((with_reducible exact HK.out))) hk (.inl rfl)); have n2_ := Aside0.mk (hb); have n3_ := Aside0.mk (hi); clear HO_5; clear HK; clear HB; clear HI0; have HO_5 := n0_; have HK := n1_; have HB := n2_; have HI0 := n3_; clear n0_ n1_ n2_ n3_; (try clear hb); (try clear hb2); (try clear hk); (try clear hi)))
         have n0_ := Aside0.mk (Kd.R_drew HO_5.out); have n1_ := Aside0.mk (IsS82.drew HI0.out); have n2_ := Aside0.mk (keep_drew HK.out); have n3_ := Aside0.mk (below_drew1 HB.out); clear HO_5; clear HI0; clear HK; clear HB; have HO_5 := n0_; have HI0 := n1_; have HK := n2_; have HB := n3_; clear n0_ n1_ n2_ n3_; have p227 : 0 ≤ ((ji42) : Int) := of_decide_eq_true (by (with_reducible assumption)); have q227 : (ji42) < (x5_1.length : Int) := of_decide_eq_true (by (with_reducible assumption)); obtain ⟨ad227, e227, hx227_0, hx227_1⟩ := at_T49 (Kd.R_reads' HO_5.out).2.2 (ji42) p227 q227; cases e227; replace p227 := eq_true p227; replace q227 := eq_true q227; have p228 : 0 ≤ ((ji42) : Int) := of_decide_eq_true (by (with_reducible assumption)); have q228 : (ji42) < (x5_1.length : Int) := of_decide_eq_true (by (with_reducible assumption)); obtain ⟨ad228, e228, hx228_0, hx228_1⟩ := at_T49 (Kd.R_reads' HO_5.out).2.2 (ji42) p228 q228; obtain rfl : ad227 = ad228 := (by injection e228); replace p228 := eq_true p228; replace q228 := eq_true q228; refine start_ (n := 20) (S := fun w' => w'.cell? (ad227.add (((ji42)).toNat * 2)) = some (.int .i64 ((rd_T49 x5_1 (ji42)).f0)) ∧ w'.cell? ⟨(ad227.add (((ji42)).toNat * 2)).block, (ad227.add (((ji42)).toNat * 2)).off + 1, none⟩ = some (.int .i64 ((rd_T49 x5_1 (ji42)).f1)) ∧ w'.cell? (ad227.add (((ji42)).toNat * 2)) = some (.int .i64 ((rd_T49 x5_1 (ji42)).f0)) ∧ w'.cell? ⟨(ad227.add (((ji42)).toNat * 2)).block, (ad227.add (((ji42)).toNat * 2)).off + 1, none⟩ = some (.int .i64 ((rd_T49 x5_1 (ji42)).f1))) (ds := [17, 18]) #[Z,Z,Z,Z,Z,Z,Z,Z,Z,Z,Z,Z,Z,Z,Z,Z,Z,Z,Z,Z] (by kernel_rfl) rfl rfl ⟨hx227_0, hx227_1, hx228_0, hx228_1⟩ (fun hHeld => ?_); refine with_tabW spec_l1Cur_body.tab10 spec_l1Cur_body.bits10 (fun HT_ HW_ => ?_)
         generalize w47.drew = w48 at HO_5 HI0 HK HB hx227_0 hx227_1 hx228_0 hx228_1 hHeld ⊢
         refine pure_ (i := 0) (N := some 48) (v := ?_) (a' := ?_) #[Y,Z,Z,Z,Z,Z,Z,Z,Z,Z,Z,Z,Z,Z,Z,Z,Z,Z,Z,Z] rfl rfl (any_of HT_.out (by kernel_rfl)) (fun _ _ _ h => h) (Or.inl ⟨by rfl, ?_⟩) ?_ ?_; rotate_left
         ·intro w'
          go_simp
          with_reducible rfl
         rotate_left
         ·simp only [Act.put, sA, sZ, sS, i64_w, i32_w]
          rfl
         refine pure_ (i := 1) (N := some 49) (v := ?_) (a' := ?_) #[Y,Y,Z,Z,Z,Z,Z,Z,Z,Z,Z,Z,Z,Z,Z,Z,Z,Z,Z,Z] rfl rfl (any_of HT_.out (by kernel_rfl)) (fun _ _ _ h => h) (Or.inl ⟨by rfl, ?_⟩) ?_ ?_; rotate_left
         ·intro w'
          go_simp
          with_reducible rfl
         rotate_left
         ·simp only [Act.put, sA, sZ, sS, i64_w, i32_w]
          rfl
         refine pure_ (i := 2) (N := some 50) (v := ?_) (a' := ?_) #[Y,Y,Y,Z,Z,Z,Z,Z,Z,Z,Z,Z,Z,Z,Z,Z,Z,Z,Z,Z] rfl rfl (any_of HT_.out (by kernel_rfl)) (fun _ _ _ h => h) (Or.inl ⟨by rfl, ?_⟩) ?_ ?_; rotate_left
         ·intro w'
          go_simp
          with_reducible rfl
         rotate_left
         ·simp only [Act.put, sA, sZ, sS, i64_w, i32_w]
          rfl
         refine pure_ (i := 3) (N := some 51) (v := ?_) (a' := ?_) #[Y,Y,Y,Y,Z,Z,Z,Z,Z,Z,Z,Z,Z,Z,Z,Z,Z,Z,Z,Z] rfl rfl (any_of HT_.out (by kernel_rfl)) (fun _ _ _ h => h) (Or.inl ⟨by rfl, ?_⟩) ?_ ?_; rotate_left
         ·intro w'
          go_simp
          with_reducible rfl
         rotate_left
         ·simp only [Act.put, sA, sZ, sS, i64_w, i32_w]
          rfl
         refine pure_ (i := 4) (N := some 52) (v := ?_) (a' := ?_) #[Y,Y,Y,Y,Y,Z,Z,Z,Z,Z,Z,Z,Z,Z,Z,Z,Z,Z,Z,Z] rfl rfl (any_of HT_.out (by kernel_rfl)) (fun _ _ _ h => h) (Or.inl ⟨by rfl, ?_⟩) ?_ ?_; rotate_left
         ·intro w'
          go_simp
          with_reducible rfl
         rotate_left
         ·simp only [Act.put, sA, sZ, sS, i64_w, i32_w]
          rfl
         refine pure_ (i := 5) (N := some 53) (v := ?_) (a' := ?_) #[Y,Y,Y,Y,Y,Y,Z,Z,Z,Z,Z,Z,Z,Z,Z,Z,Z,Z,Z,Z] rfl rfl (any_of HT_.out (by kernel_rfl)) (fun _ _ _ h => h) (Or.inl ⟨by rfl, ?_⟩) ?_ ?_; rotate_left
         ·intro w'
          go_simp
          with_reducible rfl
         rotate_left
         ·simp only [Act.put, sA, sZ, sS, i64_w, i32_w]
          rfl
         refine pure_ (i := 6) (N := some 54) (v := ?_) (a' := ?_) #[Y,Y,Y,Y,Y,Y,Y,Z,Z,Z,Z,Z,Z,Z,Z,Z,Z,Z,Z,Z] rfl rfl (any_of HT_.out (by kernel_rfl)) (fun _ _ _ h => h) (Or.inl ⟨by rfl, ?_⟩) ?_ ?_; rotate_left
         ·intro w'
          go_simp
          with_reducible rfl
         rotate_left
         ·simp only [Act.put, sA, sZ, sS, i64_w, i32_w]
          rfl
         refine pure_ (i := 8) (N := some 56) (v := ?_) (a' := ?_) #[Y,Y,Y,Y,Y,Y,Y,Z,Y,Z,Z,Z,Z,Z,Z,Z,Z,Z,Z,Z] rfl rfl (any_of HT_.out (by kernel_rfl)) (fun _ _ _ h => h) (Or.inl ⟨by rfl, ?_⟩) ?_ ?_; rotate_left
         ·intro w'
          go_simp
          with_reducible rfl
         rotate_left
         ·simp only [Act.put, sA, sZ, sS, i64_w, i32_w]
          rfl
         refine pure_ (i := 9) (N := some 57) (v := ?_) (a' := ?_) #[Y,Y,Y,Y,Y,Y,Y,Z,Y,Y,Z,Z,Z,Z,Z,Z,Z,Z,Z,Z] rfl rfl (any_of HT_.out (by kernel_rfl)) (fun _ _ _ h => h) (Or.inl ⟨by rfl, ?_⟩) ?_ ?_; rotate_left
         ·intro w'
          go_simp
          with_reducible rfl
         rotate_left
         ·simp only [Act.put, sA, sZ, sS, i64_w, i32_w]
          rfl
         refine pure_ (i := 10) (N := some 58) (v := ?_) (a' := ?_) #[Y,Y,Y,Y,Y,Y,Y,Z,Y,Y,Y,Z,Z,Z,Z,Z,Z,Z,Z,Z] rfl rfl (any_of HT_.out (by kernel_rfl)) (fun _ _ _ h => h) (Or.inl ⟨by rfl, ?_⟩) ?_ ?_; rotate_left
         ·intro w'
          go_simp
          with_reducible rfl
         rotate_left
         ·simp only [Act.put, sA, sZ, sS, i64_w, i32_w]
          rfl
         refine pure_ (i := 11) (N := some 59) (v := ?_) (a' := ?_) #[Y,Y,Y,Y,Y,Y,Y,Z,Y,Y,Y,Y,Z,Z,Z,Z,Z,Z,Z,Z] rfl rfl (any_of HT_.out (by kernel_rfl)) (fun _ _ _ h => h) (Or.inl ⟨by rfl, ?_⟩) ?_ ?_; rotate_left
         ·intro w'
          go_simp
          with_reducible rfl
         rotate_left
         ·simp only [Act.put, sA, sZ, sS, i64_w, i32_w]
          rfl
         refine pure_ (i := 12) (N := some 60) (v := ?_) (a' := ?_) #[Y,Y,Y,Y,Y,Y,Y,Z,Y,Y,Y,Y,Y,Z,Z,Z,Z,Z,Z,Z] rfl rfl (any_of HT_.out (by kernel_rfl)) (fun _ _ _ h => h) (Or.inl ⟨by rfl, ?_⟩) ?_ ?_; rotate_left
         ·intro w'
          go_simp
          with_reducible rfl
         rotate_left
         ·simp only [Act.put, sA, sZ, sS, i64_w, i32_w]
          rfl
         refine pure_ (i := 13) (N := some 61) (v := ?_) (a' := ?_) #[Y,Y,Y,Y,Y,Y,Y,Z,Y,Y,Y,Y,Y,Y,Z,Z,Z,Z,Z,Z] rfl rfl (any_of HT_.out (by kernel_rfl)) (fun _ _ _ h => h) (Or.inl ⟨by rfl, ?_⟩) ?_ ?_; rotate_left
         ·intro w'
          go_simp
          with_reducible rfl
         rotate_left
         ·simp only [Act.put, sA, sZ, sS, i64_w, i32_w]
          rfl
         refine take_ (i := 7) (N := some 55) (v := ?_) (a' := ?_) #[Y,Y,Y,Y,Y,Y,Y,Y,Y,Y,Y,Y,Y,Y,Z,Z,Z,Z,Z,Z] rfl rfl (take_ofW HT_.out HW_.out (by kernel_rfl)) (fun _ _ _ h => h) (Or.inl ⟨by rfl, ?_⟩) hHeld ?_ ?_; rotate_left
         ·rintro w' ⟨s0, s1, s2, s3⟩
          go_simp
          with_reducible rfl
         rotate_left
         ·simp only [Act.put, sA, sZ, sS, i64_w, i32_w]
          rfl
         refine take_ (i := 14) (N := some 62) (v := ?_) (a' := ?_) #[Y,Y,Y,Y,Y,Y,Y,Y,Y,Y,Y,Y,Y,Y,Y,Z,Z,Z,Z,Z] rfl rfl (take_ofW HT_.out HW_.out (by kernel_rfl)) (fun _ _ _ h => h) (Or.inl ⟨by rfl, ?_⟩) hHeld ?_ ?_; rotate_left
         ·rintro w' ⟨s0, s1, s2, s3⟩
          go_simp
          with_reducible rfl
         rotate_left
         ·simp only [Act.put, sA, sZ, sS, i64_w, i32_w]
          rfl
         refine pure_ (i := 15) (N := some 63) (v := ?_) (a' := ?_) #[Y,Y,Y,Y,Y,Y,Y,Y,Y,Y,Y,Y,Y,Y,Y,Y,Z,Z,Z,Z] rfl rfl (any_of HT_.out (by kernel_rfl)) (fun _ _ _ h => h) (Or.inl ⟨by rfl, ?_⟩) ?_ ?_; rotate_left
         ·intro w'
          go_simp
          with_reducible rfl
         rotate_left
         ·simp only [Act.put, sA, sZ, sS, i64_w, i32_w]
          rfl
         refine pure_ (i := 16) (N := some 64) (v := ?_) (a' := ?_) #[Y,Y,Y,Y,Y,Y,Y,Y,Y,Y,Y,Y,Y,Y,Y,Y,Y,Z,Z,Z] rfl rfl (any_of HT_.out (by kernel_rfl)) (fun _ _ _ h => h) (Or.inl ⟨by rfl, ?_⟩) ?_ ?_; rotate_left
         ·intro w'
          go_simp
          with_reducible rfl
         rotate_left
         ·simp only [Act.put, sA, sZ, sS, i64_w, i32_w]
          rfl
         refine last_ (i := 17) (N := some 65) #[Y,Y,Y,Y,Y,Y,Y,Y,Y,Y,Y,Y,Y,Y,Y,Y,Y,Y,Z,Z] rfl rfl (one_of HT_.out (by kernel_rfl)) (by decide) (fun K hK => ?_); refine value_ (w1 := ?_) (v := ?_) (by rfl) rfl ?_ ?_; rotate_left 2
         ·go_simp
          constructor
          ·rfl
          ·rfl
         refine hK.out _ _ ?_; clear hK K; refine norm_ (a' := ?_) ?_ ?_; rotate_left
         ·show Act.put _ (some 65) _ = _
          simp only [Act.put, sA, sZ, sS, i64_w, i32_w]
          rfl
         refine last_ (i := 18) (N := some 66) #[Y,Y,Y,Y,Y,Y,Y,Y,Y,Y,Y,Y,Y,Y,Y,Y,Y,Y,Y,Z] rfl rfl (one_of HT_.out (by kernel_rfl)) (by decide) (fun K hK => ?_); refine Kd.R_append_step k49 w.heap.size (by rfl) (.tmp 48) (.tmp 65) 22 49 (.agg #[(.int .i64 0), (.int .i64 0)]) 16 rfl Try.underlying22 info49 rfl (by decide) (by omega) (.slice (some ad227) x5_1.length co46) x5_1 (⟨(rd_T49 x5_1 (ji42)).f0, wrap64 (((rd_T49 x5_1 (ji42)).f1) + 2)⟩ : S49) [.int .i64 ((rd_T49 x5_1 (ji42)).f0), .int .i64 (wrap64 (((rd_T49 x5_1 (ji42)).f1) + 2))] (fun _ => True) (fun _ => False) rfl rfl ?aP (fun _ hk => hk.elim) ?aF ?aO (Below.refl _ _) ?aS ?aL ?_
         (case aP => exact k49_mkM _ _ _ (⟨(rd_T49 x5_1 (ji42)).f0, wrap64 (((rd_T49 x5_1 (ji42)).f1) + 2)⟩ : S49))
         (case aF => exact (fun _ _ => trivial))
         (case aO => exact (by exact HO_5.out))
         (case aS => exact (keep_size (w := w) (g := g) (row := none) (by repeat ((with_reducible exact HK.out)))))
         (case aL => have := LMc45.out; omega)
         intro v230 w49 ho hb hg hat; rw [← Ny229.out] at ho; have n0_ := Aside0.mk (IsS82.grown (by repeat ((with_reducible exact HI0.out))) hg (IsS82.own_ne HI0.out HO_5.out (by decide))); have n1_ := Aside0.mk (below_weaken (by repeat ((with_reducible exact HB.out))) HL.out hb); have n2_ := Aside0.mk (KeepBut.trans (by repeat ((with_reducible exact HK.out))) (KeepBut.of_grown hg g) (Kd.R_base2 HO_5.out)); have n3_ := Aside0.mk (ho); clear HI0; clear HB; clear HK; clear HO_5; have HI0 := n0_; have HB := n1_; have HK := n2_; have HO231 := n3_; clear n0_ n1_ n2_ n3_; clear ho hb hg hat; refine hK.out _ _ ?_; clear hK K; refine norm_ (a' := ?_) ?_ ?_; rotate_left
         ·show Act.put _ (some 66) _ = _
          simp only [Act.put, sA, sZ, sS, i64_w, i32_w]
          rfl
         refine pure_ (i := 19) (N := some 5) (v := ?_) (a' := ?_) #[Y,Y,Y,Y,Y,Y,Y,Y,Y,Y,Y,Y,Y,Y,Y,Y,Y,Y,Y,Y] rfl rfl (any_of HT_.out (by kernel_rfl)) (fun _ _ _ h => h) (Or.inl ⟨by rfl, ?_⟩) ?_ ?_; rotate_left
         ·intro w'
          go_simp
          with_reducible rfl
         rotate_left
         ·simp only [Act.put, sA, sZ, sS, i64_w, i32_w]
          rfl
         refine done_ (done_of HT_.out (by kernel_rfl)) ?_; (try go_wp2); go_ret; exact ⟨_, by first | rfl | (simp [errW_none, errW_some] <;> rfl) | (fail) | (simp [*, errW_none, errW_some] <;> rfl), by exact HO231.out, by repeat ((with_reducible exact HI0.out)), by repeat ((with_reducible exact HB.out)), by repeat ((with_reducible exact HK.out))⟩
        ·rw [if_neg c45] at H
         exact absurd H (by simp)
       ·rw [if_neg c44] at H
        exact absurd H (by simp)
      ·rw [if_neg c43] at H
       exact absurd H (by simp)
     ·rw [if_neg c41] at H
      have c41b0 : (t214 == 1) = false := beq_eq_false_iff_ne.mpr c41; have c41b1 : (t214 != 1) = true := bne_iff_ne.mpr c41
      by_cases c50 : t214 = 2
      ·rw [if_pos c50] at H
       have c50b0 : (t214 == 2) = true := beq_iff_eq.mpr c50; have c50b1 : (t214 != 2) = false := bne_eq_false_iff_eq.mpr c50; clear c50
       by_cases c51 : 0 < (x5_1.length : Int)
       ·rw [if_pos c51] at H
        have c51b0 : decide (0 < (x5_1.length : Int)) = true := decide_eq_true c51; have c51b1 : decide (0 < x5_1.length) = true := decide_eq_true (by omega); clear c51
        by_cases c52 : x5_1.length < 8796093022208
        ·rw [if_pos c52] at H
         have LMc52 := Aside0.mk c52; clear c52; obtain ⟨y233, hy233⟩ : ∃ y_ : List (S49), y_ = (x5_1 ++ [(⟨(rd_T49 x5_1 0).f0, (rd_T49 x5_1 0).f1⟩ : S49)]) := ⟨_, rfl⟩
         replace H : (some (y233, t215, t216)) = some (r1, r2, r3) := by first | (rw [hy233]; with_reducible exact H) | (have H2_ := (Option.bind_some _ _).symm.trans H; rw [hy233]; with_reducible exact H2_) | (have H2_ := (Option.bind_some _ _).symm.trans H; with_reducible exact H2_) | with_reducible exact H | (rw [hy233]; exact H) | exact H
         have Ny233 := Aside0.mk hy233; clear hy233; simp only [Option.some.injEq, Prod.mk.injEq] at H; obtain ⟨rfl, rfl, rfl⟩ := H; obtain ⟨Ao53, co53, eo53⟩ := Kd.R_slice HO_5.out; subst eo53
         go_wp2_with (first | ((with_reducible refine gate_callee (f := 104) rfl ?_); refine goesL_ (some 33) rfl rfl Try.func104 (by kernel_rfl) rfl #[.pointer (some ⟨g, 0, none⟩), .int .i64 50] rfl (by (try simp only [List.map_toArray, List.map_cons, List.map_nil]); rfl) ?_; (with_reducible refine (spec_l1Cur_pick.calls g s0_0 x1001_1 x1002_1 50 t214 t215 t216 w0 _ ?side1 ?side2 A25.out).mono ?_); (case side1 => repeat ((with_reducible exact HI0.out))); (case side2 => repeat ((with_reducible exact HB.out))); rintro e w54 ⟨rfl, hi, hb, hk⟩; refine ⟨_, rfl, ?_⟩; have n0_ := Aside0.mk (Kd.R_mono (Kd.R_keep (IsS82.apart (show IsS82 w0 _ g s0_0 x1001_1 x1002_1 from by repeat ((with_reducible exact HI0.out))) (by exact HO_5.out) (by decide)) hk (fun _ h => h.2)) (fun _ h => h.1)); have n1_ := Aside0.mk (KeepBut.trans (by repeat ((with_reducible exact HK.out))) hk (.inl rfl)); have n2_ := Aside0.mk (hb); have n3_ := Aside0.mk (hi); clear HO_5; clear HK; clear HB; clear HI0; have HO_5 := n0_; have HK := n1_; have HB := n2_; have HI0 := n3_; clear n0_ n1_ n2_ n3_; (try clear hb); (try clear hb2); (try clear hk); (try clear hi); have p232 : 0 ≤ (0 : Int) := (by omega); have q232 : 0 < (x5_1.length : Int) := of_decide_eq_true (by (with_reducible assumption)); obtain ⟨ad232, e232, hx232_0, hx232_1⟩ := at_T49 (Kd.R_reads' HO_5.out).2.2 0 p232 q232; cases e232; have qi232 : (0 < x5_1.length) = True := eq_true (by omega); (try rw [show ((0 : Int)).toNat = 0 from rfl] at hx232_0); (try rw [show 0 * 2 = 0 from rfl] at hx232_0); (try rw [Addr.add_zero'] at hx232_0); (try rw [show ((0 : Int)).toNat = 0 from rfl] at hx232_1); (try rw [show 0 * 2 = 0 from rfl] at hx232_1); (try rw [Addr.add_zero'] at hx232_1); replace p232 := eq_true p232; replace q232 := eq_true q232) | ((with_reducible refine gate_builtin (b := .append) (xs := #[.tmp 69, .tmp 73]) rfl ?_); at_builtin; refine Kd.R_append k49 w.heap.size rfl (.tmp 69) (.tmp 73) 22 49 (.agg #[(.int .i64 0), (.int .i64 0)]) 16 rfl Try.underlying22 info49 rfl (by decide) (by omega) (.slice (some ad232) x5_1.length co53) x5_1 (⟨(rd_T49 x5_1 0).f0, (rd_T49 x5_1 0).f1⟩ : S49) [.int .i64 ((rd_T49 x5_1 0).f0), .int .i64 ((rd_T49 x5_1 0).f1)] (fun _ => True) (fun _ => False) rfl rfl ?aP (fun _ hk => hk.elim) ?aF ?aO (Below.refl _ _) ?aS ?aL ?_; (case aP => exact k49_mkM _ _ _ (⟨(rd_T49 x5_1 0).f0, (rd_T49 x5_1 0).f1⟩ : S49)); (case aF => exact (fun _ _ => trivial)); (case aO => exact (by exact HO_5.out)); (case aS => exact (keep_size (w := w) (g := g) (row := none) (by repeat ((with_reducible exact HK.out))))); (case aL => have := LMc52.out; omega); intro v234 w55 ho hb hg hat; rw [← Ny233.out] at ho; have n0_ := Aside0.mk (IsS82.grown (by repeat ((with_reducible exact HI0.out))) hg (IsS82.own_ne HI0.out HO_5.out (by decide))); have n1_ := Aside0.mk (below_weaken (by repeat ((with_reducible exact HB.out))) HL.out hb); have n2_ := Aside0.mk (KeepBut.trans (by repeat ((with_reducible exact HK.out))) (KeepBut.of_grown hg g) (Kd.R_base2 HO_5.out)); have n3_ := Aside0.mk (ho); clear HI0; clear HB; clear HK; clear HO_5; have HI0 := n0_; have HB := n1_; have HK := n2_; have HO235 := n3_; clear n0_ n1_ n2_ n3_; clear ho hb hg hat))
         go_ret; exact ⟨_, by first | rfl | (simp [errW_none, errW_some] <;> rfl) | (simp [*, errW_none, errW_some] <;> rfl), by exact HO235.out, by repeat ((with_reducible exact HI0.out)), by repeat ((with_reducible exact HB.out)), by repeat ((with_reducible exact HK.out))⟩
        ·rw [if_neg c52] at H
         exact absurd H (by simp)
       ·rw [if_neg c51] at H
        exact absurd H (by simp)
      ·rw [if_neg c50] at H
       have c50b0 : (t214 == 2) = false := beq_eq_false_iff_ne.mpr c50; have c50b1 : (t214 != 2) = true := bne_iff_ne.mpr c50
       by_cases c56 : t214 = 3
       ·rw [if_pos c56] at H
        have c56b0 : (t214 == 3) = true := beq_iff_eq.mpr c56; have c56b1 : (t214 != 3) = false := bne_eq_false_iff_eq.mpr c56; clear c56; obtain ⟨y236, hy236⟩ : ∃ y_ : List (S49), y_ = (([] : List (S49))) := ⟨_, rfl⟩
        replace H : (some (y236, t215, t216)) = some (r1, r2, r3) := by first | (rw [hy236]; with_reducible exact H) | (have H2_ := (Option.bind_some _ _).symm.trans H; rw [hy236]; with_reducible exact H2_) | (have H2_ := (Option.bind_some _ _).symm.trans H; with_reducible exact H2_) | with_reducible exact H | (rw [hy236]; exact H) | exact H
        have Ny236 := Aside0.mk hy236; clear hy236; simp only [Option.some.injEq, Prod.mk.injEq] at H; obtain ⟨rfl, rfl, rfl⟩ := H; obtain ⟨Ao57, co57, eo57⟩ := Kd.R_slice HO_5.out; subst eo57
        go_wp2_with (first | ((with_reducible refine gate_callee (f := 104) rfl ?_); refine goesL_ (some 33) rfl rfl Try.func104 (by kernel_rfl) rfl #[.pointer (some ⟨g, 0, none⟩), .int .i64 50] rfl (by (try simp only [List.map_toArray, List.map_cons, List.map_nil]); rfl) ?_; (with_reducible refine (spec_l1Cur_pick.calls g s0_0 x1001_1 x1002_1 50 t214 t215 t216 w0 _ ?side1 ?side2 A25.out).mono ?_); (case side1 => repeat ((with_reducible exact HI0.out))); (case side2 => repeat ((with_reducible exact HB.out))); rintro e w58 ⟨rfl, hi, hb, hk⟩; refine ⟨_, rfl, ?_⟩; have n0_ := Aside0.mk (Kd.R_mono (Kd.R_keep (IsS82.apart (show IsS82 w0 _ g s0_0 x1001_1 x1002_1 from by repeat ((with_reducible exact HI0.out))) (by exact HO_5.out) (by decide)) hk (fun _ h => h.2)) (fun _ h => h.1)); have n1_ := Aside0.mk (KeepBut.trans (by repeat ((with_reducible exact HK.out))) hk (.inl rfl)); have n2_ := Aside0.mk (hb); have n3_ := Aside0.mk (hi); clear HO_5; clear HK; clear HB; clear HI0; have HO_5 := n0_; have HK := n1_; have HB := n2_; have HI0 := n3_; clear n0_ n1_ n2_ n3_; (try clear hb); (try clear hb2); (try clear hk); (try clear hi)) | ((with_reducible refine gate_dst (N := 77) rfl ?_); refine Kd.R_lit k49 _ 49 ?hg (N := 77) ?hd (xs := ([] : List (S49))) (inner := []) (ok := fun _ => True) (okp := fun _ => True) ?hr ?hp (fun _ hk => hk) trivial (Below.refl _ _) (Nat.le_refl _) (by simp) ?_; (case hd => rfl); (case hg => rfl); (case hr => (go_simp; done)); (case hp => exact (Reps.none _ _)); intro v237 w59 ho60 hb hg_ hnew_; clear hg_ hnew_; (rw [← Ny236.out] at ho60); have n0_ := Aside0.mk (Kd.R_elder' (by exact HO_5.out) (Kd.R_base ho60) hb); have n1_ := Aside0.mk (Kd.R_lower (Kd.R_new' ho60 (Kd.R_lt (by exact HO_5.out))) (keep_size (w := w) (g := g) (row := none) (by repeat ((with_reducible exact HK.out))))); have n2_ := Aside0.mk (IsS82.below (by repeat ((with_reducible exact HI0.out))) hb); have n3_ := Aside0.mk (KeepBut.trans (by repeat ((with_reducible exact HK.out))) (KeepBut.of_below hb g none) (.inl rfl)); have n4_ := Aside0.mk (below_step (by repeat ((with_reducible exact HB.out))) hb); clear HO_5; clear HI0; clear HK; clear HB; have HO_5 := n0_; have HO238 := n1_; have HI0 := n2_; have HK := n3_; have HB := n4_; clear n0_ n1_ n2_ n3_ n4_; clear hb ho60))
        go_ret; exact ⟨_, by first | rfl | (simp [errW_none, errW_some] <;> rfl) | (simp [*, errW_none, errW_some] <;> rfl), by exact Kd.R_mono HO238.out (fun _ hk => trivial), by repeat ((with_reducible exact HI0.out)), by repeat ((with_reducible exact HB.out)), by repeat ((with_reducible exact HK.out))⟩
       ·rw [if_neg c56] at H
        have c56b0 : (t214 == 3) = false := beq_eq_false_iff_ne.mpr c56; have c56b1 : (t214 != 3) = true := bne_iff_ne.mpr c56
        by_cases c61 : t214 = 4
        ·rw [if_pos c61] at H
         have c61b0 : (t214 == 4) = true := beq_iff_eq.mpr c61; have c61b1 : (t214 != 4) = false := bne_eq_false_iff_eq.mpr c61; clear c61; have H' := Aside0.mk H; clear H; obtain ⟨Ao62, co62, eo62⟩ := Kd.R_slice HO_5.out; subst eo62
         go_wp2_with (((with_reducible refine gate_callee (f := 104) rfl ?_); refine goesL_ (some 33) rfl rfl Try.func104 (by kernel_rfl) rfl #[.pointer (some ⟨g, 0, none⟩), .int .i64 50] rfl (by (try simp only [List.map_toArray, List.map_cons, List.map_nil]); rfl) ?_; (with_reducible refine (spec_l1Cur_pick.calls g s0_0 x1001_1 x1002_1 50 t214 t215 t216 w0 _ ?side1 ?side2 A25.out).mono ?_); (case side1 => repeat ((with_reducible exact HI0.out))); (case side2 => repeat ((with_reducible exact HB.out))); rintro e w63 ⟨rfl, hi, hb, hk⟩; refine ⟨_, rfl, ?_⟩; have n0_ := Aside0.mk (Kd.R_mono (Kd.R_keep (IsS82.apart (show IsS82 w0 _ g s0_0 x1001_1 x1002_1 from by repeat ((with_reducible exact HI0.out))) (by exact HO_5.out) (by decide)) hk (fun _ h => h.2)) (fun _ h => h.1)); have n1_ := Aside0.mk (KeepBut.trans (by repeat ((with_reducible exact HK.out))) hk (.inl rfl)); have n2_ := Aside0.mk (hb); have n3_ := Aside0.mk (hi); clear HO_5; clear HK; clear HB; clear HI0; have HO_5 := n0_; have HK := n1_; have HB := n2_; have HI0 := n3_; clear n0_ n1_ n2_ n3_; (try clear hb); (try clear hb2); (try clear hk); (try clear hi)))
         (try simp only [Act.put, sA, sZ, sS])
         go_loopg [8] k1 (fun kq v8 w' => ∃ (x5_2 : List (S49)) (x8_2 : Int), v8 = .int .i64 x8_2 ∧ Aside0 (spec_l1Cur_body.l1 kq x5_2 x8_2 s0_0 t215 t216 = some (r1, r2, r3)) ∧ Aside0 (kq ≤ k1) ∧ Aside0 (Kd.R k49 49 w' w.heap.size (fun _ => True) (.slice Ao62 x5_1.length co62) x5_2) ∧ Aside0 (IsS82 w0 w' g s0_0 t215 t216) ∧ Aside0 (KeepBut w w' g none) ∧ Aside0 (Below w0.heap.size w0 w'))
         case atStart => exact ⟨(x5_1), (0), (by rfl), H', ⟨Nat.le_refl _⟩, ⟨by exact HO_5.out⟩, ⟨by repeat ((with_reducible exact HI0.out))⟩, ⟨by repeat ((with_reducible exact HK.out))⟩, ⟨by repeat ((with_reducible exact HB.out))⟩⟩
         case round =>
          clear H'; (try clear c1); (try clear c2); (try clear p2); (try clear q2); (try clear hx2); (try clear qi2); (try clear c3); (try clear p3); (try clear q3); (try clear hx3); (try clear hf3); (try clear c4); (try clear c5); (try clear c6); (try clear p6); (try clear c9); (try clear c10); (try clear c11); (try clear c11b0); (try clear c14); (try clear c14b0); (try clear c15); (try clear c15b0); (try clear p20); (try clear q20); (try clear hx20); (try clear p22); (try clear q22); (try clear hx22); (try clear p23); (try clear q23); (try clear hx23); (try clear qi23); (try clear c26); (try clear c26b0); (try clear c26b1); (try clear c29); (try clear c29b0); (try clear c30); (try clear c30b0); (try clear c31); (try clear p31); (try clear q31); (try clear hx31); (try clear hf31); (try clear c39); (try clear hx39); (try clear hf39); (try clear c41); (try clear c41b0); (try clear c41b1); (try clear c43); (try clear c43b0); (try clear c44); (try clear c44b0); (try clear c45); (try clear c50); (try clear c50b0); (try clear c50b1); (try clear c51); (try clear c51b0); (try clear c51b1); (try clear c52); (try clear c56); (try clear c56b0); (try clear c56b1); (try clear c61); (try clear c61b0); (try clear c61b1); (try clear c63); (try clear hx207_0); (try clear hx207_1); (try clear hx227_0); (try clear hx227_1); (try clear hx228_0); (try clear hx228_1); (try clear hx232_0); (try clear hx232_1); (try clear hx31_0); (try clear hx31_1); (try clear hx39_0); (try clear hx39_1); (try clear p2); (try clear p207); (try clear p227); (try clear p228); (try clear p232); (try clear p31); (try clear q207); (try clear q227); (try clear q228); (try clear q232); (try clear q31); obtain ⟨x5_2, x8_2, rfl, HA, HK2, HO_5, HI0, HK, HB⟩ := hrel; have hl5_2 := (Kd.R_reads' HO_5.out).1; rw [hl5_2] at HO_5
          (try simp only [hl5_2])
          cases gk with
          | zero => exact absurd HA.out (by simp [spec_l1Cur_body.l1])
          | succ k2 =>
           have H := HA.out; clear HA; simp only [spec_l1Cur_body.l1] at H
           by_cases c64 : x8_2 < (x5_2.length : Int)
           ·rw [if_pos c64] at H
            have c64b0 : decide (x8_2 < (x5_2.length : Int)) = true := decide_eq_true c64; clear c64
            by_cases c65 : 0 ≤ x8_2
            ·rw [if_pos c65] at H
             have c65b0 : decide (0 ≤ x8_2) = true := decide_eq_true c65; clear c65; obtain ⟨y241, hy241⟩ : ∃ y_ : List (S49), y_ = (x5_2.set (x8_2 : Int).toNat (⟨(rd_T49 x5_2 x8_2).f0, wrap64 (((rd_T49 x5_2 x8_2).f1) + 1)⟩ : S49)) := ⟨_, rfl⟩
             replace H : (spec_l1Cur_body.l1 k2 y241 (wrap64 (x8_2 + 1)) s0_0 t215 t216) = some (r1, r2, r3) := by first | (rw [hy241]; with_reducible exact H) | (have H2_ := (Option.bind_some _ _).symm.trans H; rw [hy241]; with_reducible exact H2_) | (have H2_ := (Option.bind_some _ _).symm.trans H; with_reducible exact H2_) | with_reducible exact H | (rw [hy241]; exact H) | exact H
             have Ny241 := Aside0.mk hy241; clear hy241; have H' := Aside0.mk H; clear H; (try go_wp2); have n0_ := Aside0.mk (Kd.R_drew HO_5.out); have n1_ := Aside0.mk (IsS82.drew HI0.out); have n2_ := Aside0.mk (keep_drew HK.out); have n3_ := Aside0.mk (below_drew1 HB.out); clear HO_5; clear HI0; clear HK; clear HB; have HO_5 := n0_; have HI0 := n1_; have HK := n2_; have HB := n3_; clear n0_ n1_ n2_ n3_; have p239 : 0 ≤ (x8_2 : Int) := of_decide_eq_true (by (with_reducible assumption)); have q239 : x8_2 < (x5_2.length : Int) := of_decide_eq_true (by (with_reducible assumption)); obtain ⟨ad239, e239, hx239_0, hx239_1⟩ := at_T49 (Kd.R_reads' HO_5.out).2.2 x8_2 p239 q239; cases e239; replace p239 := eq_true p239; replace q239 := eq_true q239; have p240 : 0 ≤ (x8_2 : Int) := of_decide_eq_true (by (with_reducible assumption)); have q240 : x8_2 < (x5_2.length : Int) := of_decide_eq_true (by (with_reducible assumption)); obtain ⟨ad240, e240, hx240_0, hx240_1⟩ := at_T49 (Kd.R_reads' HO_5.out).2.2 x8_2 p240 q240; obtain rfl : ad239 = ad240 := (by injection e240); replace p240 := eq_true p240; replace q240 := eq_true q240; have p66 : 0 ≤ (x8_2 : Int) := of_decide_eq_true (by (with_reducible assumption)); have q66 : (x8_2 : Int) < ((x5_2.length : Int) : Int) := of_decide_eq_true (by (with_reducible assumption)); obtain ⟨go66, co66, eo66, gb66, gl66, cl66, HG66⟩ := Kd.R_form HO_5.out (by omega)
             (first | cases eo66 | (injection eo66 with ea_ en_ ec_; (fail); subst ec_; clear en_))
             have GB66 := Aside0.mk gb66; have GG66 := Aside0.mk HG66; clear gb66 gl66 HG66
             (simp only [add_plain] at hx239_0)
             (simp only [add_plain] at hx239_1)
             (simp only [add_plain] at hx240_0)
             (simp only [add_plain] at hx240_1)
             obtain ⟨ce66, hcl66, hM66, hcc66, hfr66⟩ := Kd.R_elem HO_5.out z49 (x8_2 : Int) p66 q66; obtain rfl := k49_openM hM66; have hx66_0 : World.cell? _ ⟨go66, (x8_2 : Int).toNat * 2, none⟩ = some (.int .i64 ((rd_T49 x5_2 x8_2).f0)) := hcc66 0 _ rfl; have hx66_1 : World.cell? _ ⟨go66, (x8_2 : Int).toNat * 2 + 1, none⟩ = some (.int .i64 ((rd_T49 x5_2 x8_2).f1)) := hcc66 1 _ rfl; have hf66_0 : World.frozen? _ ⟨go66, (x8_2 : Int).toNat * 2, none⟩ = false := hfr66 0; have hf66_1 : World.frozen? _ ⟨go66, (x8_2 : Int).toNat * 2 + 1, none⟩ = false := hfr66 1; clear hcl66 hcc66 hfr66 hM66; replace p66 := eq_true p66; replace q66 := eq_true q66; have HN0_go66 := Aside0.mk (show g ≠ go66 from by have h_ := IsS82.own_ne HI0.out HO_5.out (by decide); intro e_; exact h_ (by rw [e_]; rfl)); obtain ⟨ce68, hcl68, hM68, hcc68, hfr68⟩ := Kd.R_elem HO_5.out z49 (x8_2 : Int) (of_decide_eq_true (by (with_reducible assumption))) (by have h_ : (x8_2 : Int) < ((x5_2.length : Int) : Int) := of_decide_eq_true (by (with_reducible assumption)); exact h_); obtain rfl := k49_openM hM68; have HP68 := (Kd.R_seg HO_5.out (x8_2 : Int) (of_decide_eq_true (by (with_reducible assumption))) (by have h_ : (x8_2 : Int) < ((x5_2.length : Int) : Int) := of_decide_eq_true (by (with_reducible assumption)); exact h_) (seg := [.int .i64 ((rd_T49 x5_2 x8_2).f0), .int .i64 (wrap64 (((rd_T49 x5_2 x8_2).f1) + 1))]) (j := 0) hcl68 hcc68 (show 2 ≤ 2 from by decide) (x' := (⟨(rd_T49 x5_2 x8_2).f0, wrap64 (((rd_T49 x5_2 x8_2).f1) + 1)⟩ : S49)) (k49_mkM _ _ _ (⟨(rd_T49 x5_2 x8_2).f0, wrap64 (((rd_T49 x5_2 x8_2).f1) + 1)⟩ : S49) ) (fun _ hk => hk)).1; rw [← Ny241.out] at HP68; have HQ68 := Aside0.mk HP68; clear hcl68 hcc68 hfr68 hM68 HP68; refine start_ (n := 16) (S := fun w' => w'.cell? ⟨go66, ((x8_2).toNat * 2), none⟩ = some (.int .i64 ((rd_T49 x5_2 x8_2).f0)) ∧ w'.cell? ⟨go66, ((x8_2).toNat * 2) + 1, none⟩ = some (.int .i64 ((rd_T49 x5_2 x8_2).f1)) ∧ w'.cell? ⟨go66, ((x8_2).toNat * 2), none⟩ = some (.int .i64 ((rd_T49 x5_2 x8_2).f0)) ∧ w'.cell? ⟨go66, ((x8_2).toNat * 2) + 1, none⟩ = some (.int .i64 ((rd_T49 x5_2 x8_2).f1))) (ds := [15]) #[Z,Z,Z,Z,Z,Z,Z,Z,Z,Z,Z,Z,Z,Z,Z,Z] (by kernel_rfl) rfl rfl ⟨hx239_0, hx239_1, hx240_0, hx240_1⟩ (fun hHeld => ?_); refine with_tabW spec_l1Cur_body.tab19 spec_l1Cur_body.bits19 (fun HT_ HW_ => ?_)
             generalize wr.drew = w67 at HO_5 HI0 HK HB GG66 HQ68 hf66_0 hf66_1 hx239_0 hx239_1 hx240_0 hx240_1 hx66_0 hx66_1 hHeld ⊢
             refine pure_ (i := 0) (N := some 86) (v := ?_) (a' := ?_) #[Y,Z,Z,Z,Z,Z,Z,Z,Z,Z,Z,Z,Z,Z,Z,Z] rfl rfl (any_of HT_.out (by kernel_rfl)) (fun _ _ _ h => h) (Or.inl ⟨by rfl, ?_⟩) ?_ ?_; rotate_left
             ·intro w'
              go_simp
              with_reducible rfl
             rotate_left
             ·simp only [Act.put, sA, sZ, sS, i64_w, i32_w]
              rfl
             refine pure_ (i := 1) (N := some 87) (v := ?_) (a' := ?_) #[Y,Y,Z,Z,Z,Z,Z,Z,Z,Z,Z,Z,Z,Z,Z,Z] rfl rfl (any_of HT_.out (by kernel_rfl)) (fun _ _ _ h => h) (Or.inl ⟨by rfl, ?_⟩) ?_ ?_; rotate_left
             ·intro w'
              go_simp
              with_reducible rfl
             rotate_left
             ·simp only [Act.put, sA, sZ, sS, i64_w, i32_w]
              rfl
             refine pure_ (i := 2) (N := some 88) (v := ?_) (a' := ?_) #[Y,Y,Y,Z,Z,Z,Z,Z,Z,Z,Z,Z,Z,Z,Z,Z] rfl rfl (any_of HT_.out (by kernel_rfl)) (fun _ _ _ h => h) (Or.inl ⟨by rfl, ?_⟩) ?_ ?_; rotate_left
             ·intro w'
              go_simp
              with_reducible rfl
             rotate_left
             ·simp only [Act.put, sA, sZ, sS, i64_w, i32_w]
              rfl
             refine pure_ (i := 3) (N := some 89) (v := ?_) (a' := ?_) #[Y,Y,Y,Y,Z,Z,Z,Z,Z,Z,Z,Z,Z,Z,Z,Z] rfl rfl (any_of HT_.out (by kernel_rfl)) (fun _ _ _ h => h) (Or.inl ⟨by rfl, ?_⟩) ?_ ?_; rotate_left
             ·intro w'
              go_simp
              with_reducible rfl
             rotate_left
             ·simp only [Act.put, sA, sZ, sS, i64_w, i32_w]
              rfl
             refine pure_ (i := 4) (N := some 90) (v := ?_) (a' := ?_) #[Y,Y,Y,Y,Y,Z,Z,Z,Z,Z,Z,Z,Z,Z,Z,Z] rfl rfl (any_of HT_.out (by kernel_rfl)) (fun _ _ _ h => h) (Or.inl ⟨by rfl, ?_⟩) ?_ ?_; rotate_left
             ·intro w'
              go_simp
              with_reducible rfl
             rotate_left
             ·simp only [Act.put, sA, sZ, sS, i64_w, i32_w]
              rfl
             refine pure_ (i := 5) (N := some 91) (v := ?_) (a' := ?_) #[Y,Y,Y,Y,Y,Y,Z,Z,Z,Z,Z,Z,Z,Z,Z,Z] rfl rfl (any_of HT_.out (by kernel_rfl)) (fun _ _ _ h => h) (Or.inl ⟨by rfl, ?_⟩) ?_ ?_; rotate_left
             ·intro w'
              go_simp
              with_reducible rfl
             rotate_left
             ·simp only [Act.put, sA, sZ, sS, i64_w, i32_w]
              rfl
             refine pure_ (i := 7) (N := some 93) (v := ?_) (a' := ?_) #[Y,Y,Y,Y,Y,Y,Z,Y,Z,Z,Z,Z,Z,Z,Z,Z] rfl rfl (any_of HT_.out (by kernel_rfl)) (fun _ _ _ h => h) (Or.inl ⟨by rfl, ?_⟩) ?_ ?_; rotate_left
             ·intro w'
              go_simp
              with_reducible rfl
             rotate_left
             ·simp only [Act.put, sA, sZ, sS, i64_w, i32_w]
              rfl
             refine pure_ (i := 8) (N := some 94) (v := ?_) (a' := ?_) #[Y,Y,Y,Y,Y,Y,Z,Y,Y,Z,Z,Z,Z,Z,Z,Z] rfl rfl (any_of HT_.out (by kernel_rfl)) (fun _ _ _ h => h) (Or.inl ⟨by rfl, ?_⟩) ?_ ?_; rotate_left
             ·intro w'
              go_simp
              with_reducible rfl
             rotate_left
             ·simp only [Act.put, sA, sZ, sS, i64_w, i32_w]
              rfl
             refine pure_ (i := 9) (N := some 95) (v := ?_) (a' := ?_) #[Y,Y,Y,Y,Y,Y,Z,Y,Y,Y,Z,Z,Z,Z,Z,Z] rfl rfl (any_of HT_.out (by kernel_rfl)) (fun _ _ _ h => h) (Or.inl ⟨by rfl, ?_⟩) ?_ ?_; rotate_left
             ·intro w'
              go_simp
              with_reducible rfl
             rotate_left
             ·simp only [Act.put, sA, sZ, sS, i64_w, i32_w]
              rfl
             refine pure_ (i := 10) (N := some 96) (v := ?_) (a' := ?_) #[Y,Y,Y,Y,Y,Y,Z,Y,Y,Y,Y,Z,Z,Z,Z,Z] rfl rfl (any_of HT_.out (by kernel_rfl)) (fun _ _ _ h => h) (Or.inl ⟨by rfl, ?_⟩) ?_ ?_; rotate_left
             ·intro w'
              go_simp
              with_reducible rfl
             rotate_left
             ·simp only [Act.put, sA, sZ, sS, i64_w, i32_w]
              rfl
             refine take_ (i := 6) (N := some 92) (v := ?_) (a' := ?_) #[Y,Y,Y,Y,Y,Y,Y,Y,Y,Y,Y,Z,Z,Z,Z,Z] rfl rfl (take_ofW HT_.out HW_.out (by kernel_rfl)) (fun _ _ _ h => h) (Or.inl ⟨by rfl, ?_⟩) hHeld ?_ ?_; rotate_left
             ·rintro w' ⟨s0, s1, s2, s3⟩
              go_simp
              with_reducible rfl
             rotate_left
             ·simp only [Act.put, sA, sZ, sS, i64_w, i32_w]
              rfl
             refine take_ (i := 11) (N := some 97) (v := ?_) (a' := ?_) #[Y,Y,Y,Y,Y,Y,Y,Y,Y,Y,Y,Y,Z,Z,Z,Z] rfl rfl (take_ofW HT_.out HW_.out (by kernel_rfl)) (fun _ _ _ h => h) (Or.inl ⟨by rfl, ?_⟩) hHeld ?_ ?_; rotate_left
             ·rintro w' ⟨s0, s1, s2, s3⟩
              go_simp
              with_reducible rfl
             rotate_left
             ·simp only [Act.put, sA, sZ, sS, i64_w, i32_w]
              rfl
             refine pure_ (i := 12) (N := some 98) (v := ?_) (a' := ?_) #[Y,Y,Y,Y,Y,Y,Y,Y,Y,Y,Y,Y,Y,Z,Z,Z] rfl rfl (any_of HT_.out (by kernel_rfl)) (fun _ _ _ h => h) (Or.inl ⟨by rfl, ?_⟩) ?_ ?_; rotate_left
             ·intro w'
              go_simp
              with_reducible rfl
             rotate_left
             ·simp only [Act.put, sA, sZ, sS, i64_w, i32_w]
              rfl
             refine pure_ (i := 13) (N := some 99) (v := ?_) (a' := ?_) #[Y,Y,Y,Y,Y,Y,Y,Y,Y,Y,Y,Y,Y,Y,Z,Z] rfl rfl (any_of HT_.out (by kernel_rfl)) (fun _ _ _ h => h) (Or.inl ⟨by rfl, ?_⟩) ?_ ?_; rotate_left
             ·intro w'
              go_simp
              with_reducible rfl
             rotate_left
             ·simp only [Act.put, sA, sZ, sS, i64_w, i32_w]
              rfl
             refine pure_ (i := 14) (N := some 100) (v := ?_) (a' := ?_) #[Y,Y,Y,Y,Y,Y,Y,Y,Y,Y,Y,Y,Y,Y,Y,Z] rfl rfl (any_of HT_.out (by kernel_rfl)) (fun _ _ _ h => h) (Or.inl ⟨by rfl, ?_⟩) ?_ ?_; rotate_left
             ·intro w'
              go_simp
              with_reducible rfl
             rotate_left
             ·simp only [Act.put, sA, sZ, sS, i64_w, i32_w]
              rfl
             refine last_ (i := 15) (N := none) #[Y,Y,Y,Y,Y,Y,Y,Y,Y,Y,Y,Y,Y,Y,Y,Y] rfl rfl (one_of HT_.out (by kernel_rfl)) (by decide) (fun K hK => ?_); refine skip_ (w1 := ?_) (by rfl) rfl ?_ ?_; rotate_left
             ·go_simp
              rfl
             refine hK.out _ _ ?_; clear hK K; refine done_ (done_of HT_.out (by kernel_rfl)) ?_; (try go_wp2)
             (try simp only [← hl5_2])
             go_roundg k2
             case measure => have := HK1.out; have := HK2.out; omega
             case rel => exact ⟨(y241), (wrap64 (x8_2 + 1)), (by rfl), H', ⟨by have := HK1.out; have := HK2.out; omega⟩, ⟨by (try simp only [hl5_2]); exact HQ68.out⟩, ⟨by repeat ((with_reducible first | exact HI0.out | refine IsS82.far ?_ HN0_go66.out _))⟩, ⟨by repeat ((with_reducible first | exact HK.out | refine keep_far ?_ GB66.out _))⟩, ⟨by repeat ((with_reducible first | exact HB.out | refine below_set ?_ (Nat.le_trans HL.out GB66.out)))⟩⟩
            ·rw [if_neg c65] at H
             exact absurd H (by simp)
           ·rw [if_neg c64] at H
            have c64b0 : decide (x8_2 < (x5_2.length : Int)) = false := decide_eq_false c64; clear c64; simp only [Option.some.injEq, Prod.mk.injEq] at H; obtain ⟨rfl, rfl, rfl⟩ := H; go_wp2; go_ret; exact ⟨_, by first | rfl | (simp [errW_none, errW_some] <;> rfl) | (simp [*, errW_none, errW_some] <;> rfl), by exact HO_5.out, by repeat ((with_reducible exact HI0.out)), by repeat ((with_reducible exact HB.out)), by repeat ((with_reducible exact HK.out))⟩
        ·rw [if_neg c61] at H
         have c61b0 : (t214 == 4) = false := beq_eq_false_iff_ne.mpr c61; have c61b1 : (t214 != 4) = true := bne_iff_ne.mpr c61; simp only [Option.some.injEq, Prod.mk.injEq] at H; obtain ⟨rfl, rfl, rfl⟩ := H; obtain ⟨Ao69, co69, eo69⟩ := Kd.R_slice HO_5.out; subst eo69
         go_wp2_with (((with_reducible refine gate_callee (f := 104) rfl ?_); refine goesL_ (some 33) rfl rfl Try.func104 (by kernel_rfl) rfl #[.pointer (some ⟨g, 0, none⟩), .int .i64 50] rfl (by (try simp only [List.map_toArray, List.map_cons, List.map_nil]); rfl) ?_; (with_reducible refine (spec_l1Cur_pick.calls g s0_0 x1001_1 x1002_1 50 t214 t215 t216 w0 _ ?side1 ?side2 A25.out).mono ?_); (case side1 => repeat ((with_reducible exact HI0.out))); (case side2 => repeat ((with_reducible exact HB.out))); rintro e w70 ⟨rfl, hi, hb, hk⟩; refine ⟨_, rfl, ?_⟩; have n0_ := Aside0.mk (Kd.R_mono (Kd.R_keep (IsS82.apart (show IsS82 w0 _ g s0_0 x1001_1 x1002_1 from by repeat ((with_reducible exact HI0.out))) (by exact HO_5.out) (by decide)) hk (fun _ h => h.2)) (fun _ h => h.1)); have n1_ := Aside0.mk (KeepBut.trans (by repeat ((with_reducible exact HK.out))) hk (.inl rfl)); have n2_ := Aside0.mk (hb); have n3_ := Aside0.mk (hi); clear HO_5; clear HK; clear HB; clear HI0; have HO_5 := n0_; have HK := n1_; have HB := n2_; have HI0 := n3_; clear n0_ n1_ n2_ n3_; (try clear hb); (try clear hb2); (try clear hk); (try clear hi)))
         go_ret; exact ⟨_, by first | rfl | (simp [errW_none, errW_some] <;> rfl) | (simp [*, errW_none, errW_some] <;> rfl), by exact HO_5.out, by repeat ((with_reducible exact HI0.out)), by repeat ((with_reducible exact HB.out)), by repeat ((with_reducible exact HK.out))⟩

end Go.Proofs.Ytckhmeadflafaaa.XFs
