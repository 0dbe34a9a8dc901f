/- The law FnExactCountTilts holds: for every input the call returns true, and each argument reads afterwards as it read before. No conditions. -/
import Derived.Test.YtkedfmmmjopofaaRows
import Derived.Test.YtkedfmmmjopofaaXCtx7
import Derived.Test.YtkedfmmmjopofaaPureFnExactCountTilts
import Derived.Test.YtkedfmmmjopofaaOpenCt
import Derived.WalkKit
import Derived.ProofKit
import Derived.OpenShut
import Derived.ShutString
import Derived.ChangeOld
import Derived.Below
import Derived.SizedLaws
namespace Go.Proofs.Ytkedfmmmjopofaa.fnExactCountTilts
open Go.ChangeShapes Go.WideShapes Go.ChangeAt Go.RowKit Go.Proofs.Ytkedfmmmjopofaa.Opening Go.Proofs.Ytkedfmmmjopofaa.XCt Go.Proofs.YtkedfmmmjopofaaW.PrintWords Go.Proofs.YtkedfmmmjopofaaW.PrintLast
open Go.ChangeMaps (open_string shut_string)
set_option linter.unusedVariables false
theorem own : ownKnob Try.prog.godebug = none := by kernel_rfl
theorem laidOut : laidOutB Try.prog = true := by kernel_rfl
theorem wf_I64 {x : Int} (h : (Lit.int .i64 x).wf = true) : I64 x := by
  have hmin : IntKind.i64.min = -9223372036854775808 := rfl
  have hmax : IntKind.i64.max = 9223372036854775807 := rfl
  simp only [Lit.wf, Bool.and_eq_true, decide_eq_true_eq] at h
  unfold I64; omega
theorem cellsInt : Try.prog.cellsOf 3 = 1 := by kernel_rfl
theorem flat3 : Flat Try.prog 3 1 := flat_int Try.underlying3 (by kernel_rfl)
set_option maxRecDepth 100000 in
theorem lifted (os : Os) (started : os.Started) (H : Type) (enc : TypeId × Value → H) :
    ReturnsInHanded {} Try.checked os 3 .any (Rows.fnExactCountTiltsSpec.pre6 enc Try.prog Try.f3 Rows.fnExactCountTiltsRow.domain false) (Rows.fnExactCountTiltsSpec.post enc Try.prog Try.f3 false true false false) := by
  refine returnsInHanded_of_change_sized (C := Try.checked) own started (by kernel_rfl) Try.func3
    (ChangeSpec.witness6 (enc := enc) (C := Try.checked) false ⟨#[], #[.slice none 0 0, .slice none 0 0, .int .i64 0], []⟩ 8 (by kernel_rfl) (by kernel_rfl) (by kernel_rfl) (by kernel_rfl)) ?_
  intro W base args ds gs before hval0 hW hcnd hsz0 _
  have hsz : (DataW.weightsEach Try.prog (Try.f3.params.toList ++ Rows.fnExactCountTiltsSpec.plain.varTypes Try.prog) (ds ++ gs)).all (· ≤ reachBytes) = true := hsz0
  have hval : ∀ (j : Nat) t v, Try.f3.params[j]? = some t → args[j]? = some v → Value.okWide Try.prog W .any base t v := hval0
  have hW' := hW
  obtain ⟨p, q, hA0, hV, rfl, hfz, hnd⟩ := hW
  have hA : DataW.TrodAll enc Try.prog W 0 (fun _ => true) true Try.f3.params.toList args.toList ds p := hA0
  rw [Try.params3] at hA hval hsz
  obtain ⟨v0, vs0, d0, ds0, p0, q0, hargs, rfl, rfl, h0, r0⟩ := trodAll_cons hA
  obtain ⟨v1, vs1, d1, ds1, p1, q1, rfl, rfl, rfl, h1, r1⟩ := trodAll_cons r0
  obtain ⟨v2, vs2, d2, ds2, p2, q2, rfl, rfl, rfl, h2, r2⟩ := trodAll_cons r1
  obtain ⟨rfl, rfl, rfl⟩ := trodAll_nil r2
  obtain rfl : args = #[v0, v1, v2] := by cases args; simp_all
  obtain ⟨rfl, rfl⟩ := trodVars_none hV
  obtain ⟨a0, len0, cap0, rfl⟩ := okWide_slice Try.underlying22 (hval 0 22 v0 rfl rfl)
  have k0 := h0
  have lt0 : ∀ x ∈ p0, x.block < W.heap.size := by obtain ⟨m, hm⟩ := k0; exact DataW.trod_lt m _ _ _ hm
  have y0 : len0 * 8 ≤ 140737488351232 := sized_flats hsz (j := 0) (t := 22) rfl rfl Try.underlying22 (by kernel_rfl) h0
  obtain ⟨rows0, hl0, hc0, hm0, hw0, ha0⟩ := open_flats Try.underlying22 flat3 h0
  have C0 : Kd.C (Kd.int .i64) W a0 (rows0.map (fun g => g 0)).length (rows0.map (fun g => g 0)) := flats_C (Kd.int .i64) (fun g => g 0) rfl (fun _ _ => rfl) hl0 hm0 ha0
  obtain ⟨l0, el0⟩ : ∃ l, l = rows0.map (fun g => g 0) := ⟨_, rfl⟩
  rw [← el0] at C0
  have hll0 : len0 = l0.length := by rw [el0, List.length_map]; exact hl0.symm
  have hx0 : ∀ x ∈ l0, I64 x := by
    intro x hx
    rw [el0, List.mem_map] at hx
    obtain ⟨g, hg, rfl⟩ := hx
    exact wf_I64 (hw0 g hg 0 (by decide))
  clear el0 ha0 hw0
  subst hll0
  obtain ⟨a1, len1, cap1, rfl⟩ := okWide_slice Try.underlying22 (hval 1 22 v1 rfl rfl)
  have k1 := h1
  have lt1 : ∀ x ∈ p1, x.block < W.heap.size := by obtain ⟨m, hm⟩ := k1; exact DataW.trod_lt m _ _ _ hm
  have y1 : len1 * 8 ≤ 140737488351232 := sized_flats hsz (j := 1) (t := 22) rfl rfl Try.underlying22 (by kernel_rfl) h1
  obtain ⟨rows1, hl1, hc1, hm1, hw1, ha1⟩ := open_flats Try.underlying22 flat3 h1
  have C1 : Kd.C (Kd.int .i64) W a1 (rows1.map (fun g => g 0)).length (rows1.map (fun g => g 0)) := flats_C (Kd.int .i64) (fun g => g 0) rfl (fun _ _ => rfl) hl1 hm1 ha1
  obtain ⟨l1, el1⟩ : ∃ l, l = rows1.map (fun g => g 0) := ⟨_, rfl⟩
  rw [← el1] at C1
  have hll1 : len1 = l1.length := by rw [el1, List.length_map]; exact hl1.symm
  have hx1 : ∀ x ∈ l1, I64 x := by
    intro x hx
    rw [el1, List.mem_map] at hx
    obtain ⟨g, hg, rfl⟩ := hx
    exact wf_I64 (hw1 g hg 0 (by decide))
  clear el1 ha1 hw1
  subst hll1
  obtain ⟨a2, rfl, rfl, rfl, w2⟩ := open_int Try.underlying3 (hval 2 3 v2 rfl rfl) h2
  clear hA0 hval0 hsz0 hsz
  obtain ⟨k, h⟩ := pure l0 l1 a2 y0 hx0 y1 hx1 (wf_I64 w2)
  refine (laws_FnExactCountTilts.calls k _ _ l0 _ _ l1 a2 true W C0 hc0 C1 hc1 h).mono fun e W' ⟨he, bel0⟩ => ?_
  have bel : Below W.heap.size W W' := bel0
  subst he
  exact ⟨_, rfl, _, _, _, [], _, [], hW', trodAll_mk1 (shut_bool Try.underlying4 _), (trodAll_cons_mk (Below.trod laidOut (by kernel_rfl) (of_decide_eq_true (by kernel_rfl)) k0 bel lt0) (trodAll_cons_mk (Below.trod laidOut (by kernel_rfl) (of_decide_eq_true (by kernel_rfl)) k1 bel lt1) (trodAll_cons_mk (shut_int Try.underlying3 w2) trodAll_mk0))), rfl, bel.frame _, fun h => by cases h⟩
theorem over : Rows.fnExactCountTiltsRow.holds Try.pinned (OpenSpec.ofChange Rows.fnExactCountTiltsSpec) :=
  OpenClaim.holds_of_wide 3 Try.f3 rfl rfl rfl rfl rfl rfl rfl ⟨rfl, rfl, rfl, rfl, rfl⟩ rfl rfl rfl rfl rfl (by kernel_rfl) Try.func3 (by kernel_rfl)
    (of_decide_eq_true (by kernel_rfl)) (by unfold Func.isWrapper; first | (rw [if_pos (by decide +kernel)]; kernel_rfl) | (rw [if_neg (by decide +kernel)]; exact ⟨rfl, rfl⟩))
    (fun os started H enc _ => lifted os started H enc)
theorem proved : Rows.FnExactCountTiltsSaid := over
#print axioms proved
end Go.Proofs.Ytkedfmmmjopofaa.fnExactCountTilts
namespace Go.Proofs.Ytkedfmmmjopofaa
/-- The row, under a short name, for the claim. -/
theorem fnExactCountTilts_holds : Rows.FnExactCountTiltsSaid := fnExactCountTilts.proved
end Go.Proofs.Ytkedfmmmjopofaa
