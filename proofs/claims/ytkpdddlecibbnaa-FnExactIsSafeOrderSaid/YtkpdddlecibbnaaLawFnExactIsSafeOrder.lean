/- The law FnExactIsSafeOrder holds: for every input the call returns true, and each argument reads afterwards as it read before. No conditions. -/
import Derived.Test.YtkpdddlecibbnaaRows
import Derived.Test.YtkpdddlecibbnaaXAllx24
import Derived.Test.YtkpdddlecibbnaaPureFnExactIsSafeOrder
import Derived.Test.YtkpdddlecibbnaaOpen
import Derived.WalkKit
import Derived.ProofKit
import Derived.OpenShut
import Derived.ShutString
import Derived.ChangeOld
import Derived.Below
import Derived.SizedLaws
namespace Go.Proofs.Ytkpdddlecibbnaa.fnExactIsSafeOrder
open Go.ChangeShapes Go.WideShapes Go.ChangeAt Go.RowKit Go.Proofs.Ytkpdddlecibbnaa.Opening Go.Proofs.Ytkpdddlecibbnaa.XAll Go.Proofs.YtkpdddlecibbnaaW.PrintWords Go.Proofs.YtkpdddlecibbnaaW.PrintLast
open Go.ChangeMaps (open_string shut_string)
set_option linter.unusedVariables false
theorem own : ownKnob Try.prog.godebug = none := by kernel_rfl
theorem laidOut : laidOutB Try.prog = true := by kernel_rfl
theorem wf_I64 {x : Int} (h : (Lit.int .i64 x).wf = true) : I64 x := by
  have hmin : IntKind.i64.min = -9223372036854775808 := rfl
  have hmax : IntKind.i64.max = 9223372036854775807 := rfl
  simp only [Lit.wf, Bool.and_eq_true, decide_eq_true_eq] at h
  unfold I64; omega
theorem cellsInt : Try.prog.cellsOf 3 = 1 := by kernel_rfl
theorem flat23 : Flat Try.prog 23 3 := flat_struct Try.underlying23 Try.underlying3 cellsInt (by kernel_rfl) rfl (by
  intro j f h
  match j, h with
  | 0, h => obtain rfl := Option.some.inj h; exact ⟨rfl, rfl⟩
  | 1, h => obtain rfl := Option.some.inj h; exact ⟨rfl, rfl⟩
  | 2, h => obtain rfl := Option.some.inj h; exact ⟨rfl, rfl⟩
  | j + 3, h => simp at h)
theorem flat52 : Flat Try.prog 52 2 := flat_struct Try.underlying52 Try.underlying3 cellsInt (by kernel_rfl) rfl (by
  intro j f h
  match j, h with
  | 0, h => obtain rfl := Option.some.inj h; exact ⟨rfl, rfl⟩
  | 1, h => obtain rfl := Option.some.inj h; exact ⟨rfl, rfl⟩
  | j + 2, h => simp at h)
theorem flat3 : Flat Try.prog 3 1 := flat_int Try.underlying3 (by kernel_rfl)
set_option maxRecDepth 100000 in
theorem lifted (os : Os) (started : os.Started) (H : Type) (enc : TypeId × Value → H) :
    ReturnsInHanded {} Try.checked os 10 .any (Rows.fnExactIsSafeOrderSpec.pre6 enc Try.prog Try.f10 Rows.fnExactIsSafeOrderRow.domain false) (Rows.fnExactIsSafeOrderSpec.post enc Try.prog Try.f10 false true false false) := by
  refine returnsInHanded_of_change_sized (C := Try.checked) own started (by kernel_rfl) Try.func10
    (ChangeSpec.witness6 (enc := enc) (C := Try.checked) false ⟨#[], #[.agg #[.int .i64 0, .int .i64 0, .int .i64 0], .slice none 0 0, .slice none 0 0], []⟩ 8 (by kernel_rfl) (by kernel_rfl) (by kernel_rfl) (by kernel_rfl)) ?_
  intro W base args ds gs before hval0 hW hcnd hsz0 _
  have hsz : (DataW.weightsEach Try.prog (Try.f10.params.toList ++ Rows.fnExactIsSafeOrderSpec.plain.varTypes Try.prog) (ds ++ gs)).all (· ≤ reachBytes) = true := hsz0
  have hval : ∀ (j : Nat) t v, Try.f10.params[j]? = some t → args[j]? = some v → Value.okWide Try.prog W .any base t v := hval0
  have hW' := hW
  obtain ⟨p, q, hA0, hV, rfl, hfz, hnd⟩ := hW
  have hA : DataW.TrodAll enc Try.prog W 0 (fun _ => true) true Try.f10.params.toList args.toList ds p := hA0
  rw [Try.params10] at hA hval hsz
  obtain ⟨v0, vs0, d0, ds0, p0, q0, hargs, rfl, rfl, h0, r0⟩ := trodAll_cons hA
  obtain ⟨v1, vs1, d1, ds1, p1, q1, rfl, rfl, rfl, h1, r1⟩ := trodAll_cons r0
  obtain ⟨v2, vs2, d2, ds2, p2, q2, rfl, rfl, rfl, h2, r2⟩ := trodAll_cons r1
  obtain ⟨rfl, rfl, rfl⟩ := trodAll_nil r2
  obtain rfl : args = #[v0, v1, v2] := by cases args; simp_all
  obtain ⟨rfl, rfl⟩ := trodVars_none hV
  obtain ⟨cs0, rfl, _⟩ := okWide_struct Try.underlying23 (hval 0 23 v0 rfl rfl)
  have k0 := h0
  have lt0 : ∀ x ∈ p0, x.block < W.heap.size := by obtain ⟨m, hm⟩ := k0; exact DataW.trod_lt m _ _ _ hm
  obtain ⟨g0, e0, w0⟩ := open_flat flat23 ⟨_, rfl⟩ h0
  rw [show ((List.range 3).map fun j => Value.int .i64 (g0 j)).toArray = #[.int .i64 (g0 0), .int .i64 (g0 1), .int .i64 (g0 2)] from rfl] at e0
  cases e0
  obtain ⟨a1, len1, cap1, rfl⟩ := okWide_slice Try.underlying28 (hval 1 28 v1 rfl rfl)
  have k1 := h1
  have lt1 : ∀ x ∈ p1, x.block < W.heap.size := by obtain ⟨m, hm⟩ := k1; exact DataW.trod_lt m _ _ _ hm
  have y1 : len1 * 16 ≤ 140737488351232 := sized_flats hsz (j := 1) (t := 28) rfl rfl Try.underlying28 (by kernel_rfl) h1
  obtain ⟨rows1, hl1, hc1, hm1, hw1, ha1⟩ := open_flats Try.underlying28 flat52 h1
  have C1 : Kd.C k52 W a1 (rows1.map (fun g => (⟨g 0, g 1⟩ : S52))).length (rows1.map (fun g => (⟨g 0, g 1⟩ : S52))) := flats_C k52 (fun g => (⟨g 0, g 1⟩ : S52)) rfl (fun _ g => ⟨[.int .i64 (g 0)], _, rfl, rfl, rfl⟩) hl1 hm1 ha1
  obtain ⟨l1, el1⟩ : ∃ l, l = rows1.map (fun g => (⟨g 0, g 1⟩ : S52)) := ⟨_, rfl⟩
  rw [← el1] at C1
  have hll1 : len1 = l1.length := by rw [el1, List.length_map]; exact hl1.symm
  have hx1 : ∀ x ∈ l1, I64 x.f0 ∧ I64 x.f1 := by
    intro x hx
    rw [el1, List.mem_map] at hx
    obtain ⟨g, hg, rfl⟩ := hx
    exact ⟨wf_I64 (hw1 g hg 0 (by decide)), wf_I64 (hw1 g hg 1 (by decide))⟩
  clear el1 ha1 hw1
  subst hll1
  obtain ⟨a2, len2, cap2, rfl⟩ := okWide_slice Try.underlying36 (hval 2 36 v2 rfl rfl)
  have k2 := h2
  have lt2 : ∀ x ∈ p2, x.block < W.heap.size := by obtain ⟨m, hm⟩ := k2; exact DataW.trod_lt m _ _ _ hm
  have y2 : len2 * 8 ≤ 140737488351232 := sized_flats hsz (j := 2) (t := 36) rfl rfl Try.underlying36 (by kernel_rfl) h2
  obtain ⟨rows2, hl2, hc2, hm2, hw2, ha2⟩ := open_flats Try.underlying36 flat3 h2
  have C2 : Kd.C (Kd.int .i64) W a2 (rows2.map (fun g => g 0)).length (rows2.map (fun g => g 0)) := flats_C (Kd.int .i64) (fun g => g 0) rfl (fun _ _ => rfl) hl2 hm2 ha2
  obtain ⟨l2, el2⟩ : ∃ l, l = rows2.map (fun g => g 0) := ⟨_, rfl⟩
  rw [← el2] at C2
  have hll2 : len2 = l2.length := by rw [el2, List.length_map]; exact hl2.symm
  have hx2 : ∀ x ∈ l2, I64 x := by
    intro x hx
    rw [el2, List.mem_map] at hx
    obtain ⟨g, hg, rfl⟩ := hx
    exact wf_I64 (hw2 g hg 0 (by decide))
  clear el2 ha2 hw2
  subst hll2
  clear hA0 hval0 hsz0 hsz
  obtain ⟨k, h⟩ := pure (g0 0) (g0 1) (g0 2) l1 l2 (wf_I64 (w0 0 (by decide))) (wf_I64 (w0 1 (by decide))) (wf_I64 (w0 2 (by decide))) y1 hx1 y2 hx2
  refine (laws_FnExactIsSafeOrder.calls k (g0 0) (g0 1) (g0 2) _ _ l1 _ _ l2 true W C1 hc1 C2 hc2 h).mono fun e W' ⟨he, bel0⟩ => ?_
  have bel : Below W.heap.size W W' := bel0
  subst he
  exact ⟨_, rfl, _, _, _, [], _, [], hW', trodAll_mk1 (shut_bool Try.underlying4 _), (trodAll_cons_mk (Below.trod laidOut (by kernel_rfl) (of_decide_eq_true (by kernel_rfl)) k0 bel lt0) (trodAll_cons_mk (Below.trod laidOut (by kernel_rfl) (of_decide_eq_true (by kernel_rfl)) k1 bel lt1) (trodAll_cons_mk (Below.trod laidOut (by kernel_rfl) (of_decide_eq_true (by kernel_rfl)) k2 bel lt2) trodAll_mk0))), rfl, bel.frame _, fun h => by cases h⟩
theorem over : Rows.fnExactIsSafeOrderRow.holds Try.pinned (OpenSpec.ofChange Rows.fnExactIsSafeOrderSpec) :=
  OpenClaim.holds_of_wide 10 Try.f10 rfl rfl rfl rfl rfl rfl rfl ⟨rfl, rfl, rfl, rfl, rfl⟩ rfl rfl rfl rfl rfl (by kernel_rfl) Try.func10 (by kernel_rfl)
    (of_decide_eq_true (by kernel_rfl)) (by unfold Func.isWrapper; first | (rw [if_pos (by decide +kernel)]; kernel_rfl) | (rw [if_neg (by decide +kernel)]; exact ⟨rfl, rfl⟩))
    (fun os started H enc _ => lifted os started H enc)
theorem proved : Rows.FnExactIsSafeOrderSaid := over
#print axioms proved
end Go.Proofs.Ytkpdddlecibbnaa.fnExactIsSafeOrder
namespace Go.Proofs.Ytkpdddlecibbnaa
/-- The row, under a short name, for the claim. -/
theorem fnExactIsSafeOrder_holds : Rows.FnExactIsSafeOrderSaid := fnExactIsSafeOrder.proved
end Go.Proofs.Ytkpdddlecibbnaa
