/- The law FnExactZeroGroups holds: for every input the call returns true, and each argument reads afterwards as it read before. No conditions. -/
import Derived.Test.YtdbccenmfdjkjaaRows
import Derived.Test.YtdbccenmfdjkjaaXZgx14
import Derived.Test.YtdbccenmfdjkjaaPureFnExactZeroGroups
import Derived.Test.YtdbccenmfdjkjaaOpenZg
import Derived.WalkKit
import Derived.ProofKit
import Derived.OpenShut
import Derived.ShutString
import Derived.ChangeOld
import Derived.Below
import Derived.SizedLaws
namespace Go.Proofs.Ytdbccenmfdjkjaa.fnExactZeroGroups
open Go.ChangeShapes Go.WideShapes Go.ChangeAt Go.RowKit Go.Proofs.Ytdbccenmfdjkjaa.Opening Go.Proofs.Ytdbccenmfdjkjaa.XZg Go.Proofs.YtdbccenmfdjkjaaW.PrintWords Go.Proofs.YtdbccenmfdjkjaaW.PrintLast
open Go.ChangeMaps (open_string shut_string)
set_option linter.unusedVariables false
theorem own : ownKnob Try.prog.godebug = none := by kernel_rfl
theorem laidOut : laidOutB Try.prog = true := by kernel_rfl
theorem wf_I64 {x : Int} (h : (Lit.int .i64 x).wf = true) : I64 x := by
  have hmin : IntKind.i64.min = -9223372036854775808 := rfl
  have hmax : IntKind.i64.max = 9223372036854775807 := rfl
  simp only [Lit.wf, Bool.and_eq_true, decide_eq_true_eq] at h
  unfold I64; omega
theorem cellsInt : Try.prog.cellsOf 3 = 1 := by kernel_rfl
theorem flat69 : Flat Try.prog 69 2 := flat_struct Try.underlying69 Try.underlying3 cellsInt (by kernel_rfl) rfl (by
  intro j f h
  match j, h with
  | 0, h => obtain rfl := Option.some.inj h; exact ⟨rfl, rfl⟩
  | 1, h => obtain rfl := Option.some.inj h; exact ⟨rfl, rfl⟩
  | j + 2, h => simp at h)
set_option maxRecDepth 100000 in
theorem lifted (os : Os) (started : os.Started) (H : Type) (enc : TypeId × Value → H) :
    ReturnsInHanded {} Try.checked os 6 .any (Rows.fnExactZeroGroupsSpec.pre6 enc Try.prog Try.f6 Rows.fnExactZeroGroupsRow.domain false) (Rows.fnExactZeroGroupsSpec.post enc Try.prog Try.f6 false true false false) := by
  refine returnsInHanded_of_change_sized (C := Try.checked) own started (by kernel_rfl) Try.func6
    (ChangeSpec.witness6 (enc := enc) (C := Try.checked) false ⟨#[], #[.slice none 0 0, .int .i64 0], []⟩ 8 (by kernel_rfl) (by kernel_rfl) (by kernel_rfl) (by kernel_rfl)) ?_
  intro W base args ds gs before hval0 hW hcnd hsz0 _
  have hsz : (DataW.weightsEach Try.prog (Try.f6.params.toList ++ Rows.fnExactZeroGroupsSpec.plain.varTypes Try.prog) (ds ++ gs)).all (· ≤ reachBytes) = true := hsz0
  have hval : ∀ (j : Nat) t v, Try.f6.params[j]? = some t → args[j]? = some v → Value.okWide Try.prog W .any base t v := hval0
  have hW' := hW
  obtain ⟨p, q, hA0, hV, rfl, hfz, hnd⟩ := hW
  have hA : DataW.TrodAll enc Try.prog W 0 (fun _ => true) true Try.f6.params.toList args.toList ds p := hA0
  rw [Try.params6] at hA hval hsz
  obtain ⟨v0, vs0, d0, ds0, p0, q0, hargs, rfl, rfl, h0, r0⟩ := trodAll_cons hA
  obtain ⟨v1, vs1, d1, ds1, p1, q1, rfl, rfl, rfl, h1, r1⟩ := trodAll_cons r0
  obtain ⟨rfl, rfl, rfl⟩ := trodAll_nil r1
  obtain rfl : args = #[v0, v1] := by cases args; simp_all
  obtain ⟨rfl, rfl⟩ := trodVars_none hV
  obtain ⟨a0, len0, cap0, rfl⟩ := okWide_slice Try.underlying48 (hval 0 48 v0 rfl rfl)
  have k0 := h0
  have lt0 : ∀ x ∈ p0, x.block < W.heap.size := by obtain ⟨m, hm⟩ := k0; exact DataW.trod_lt m _ _ _ hm
  have y0 : len0 * 16 ≤ 140737488351232 := sized_flats hsz (j := 0) (t := 48) rfl rfl Try.underlying48 (by kernel_rfl) h0
  obtain ⟨rows0, hl0, hc0, hm0, hw0, ha0⟩ := open_flats Try.underlying48 flat69 h0
  have C0 : Kd.C k69 W a0 (rows0.map (fun g => (⟨g 0, g 1⟩ : S69))).length (rows0.map (fun g => (⟨g 0, g 1⟩ : S69))) := flats_C k69 (fun g => (⟨g 0, g 1⟩ : S69)) rfl (fun _ g => ⟨[.int .i64 (g 0)], _, rfl, rfl, rfl⟩) hl0 hm0 ha0
  obtain ⟨l0, el0⟩ : ∃ l, l = rows0.map (fun g => (⟨g 0, g 1⟩ : S69)) := ⟨_, rfl⟩
  rw [← el0] at C0
  have hll0 : len0 = l0.length := by rw [el0, List.length_map]; exact hl0.symm
  have hx0 : ∀ x ∈ l0, I64 x.f0 ∧ I64 x.f1 := by
    intro x hx
    rw [el0, List.mem_map] at hx
    obtain ⟨g, hg, rfl⟩ := hx
    exact ⟨wf_I64 (hw0 g hg 0 (by decide)), wf_I64 (hw0 g hg 1 (by decide))⟩
  clear el0 ha0 hw0
  subst hll0
  obtain ⟨a1, rfl, rfl, rfl, w1⟩ := open_int Try.underlying3 (hval 1 3 v1 rfl rfl) h1
  clear hA0 hval0 hsz0 hsz
  obtain ⟨k, h⟩ := pure l0 a1 y0 hx0 (wf_I64 w1)
  refine (laws_FnExactZeroGroups.calls k _ _ l0 a1 true W C0 hc0 h).mono fun e W' ⟨he, bel0⟩ => ?_
  have bel : Below W.heap.size W W' := bel0
  subst he
  exact ⟨_, rfl, _, _, _, [], _, [], hW', trodAll_mk1 (shut_bool Try.underlying4 _), (trodAll_cons_mk (Below.trod laidOut (by kernel_rfl) (of_decide_eq_true (by kernel_rfl)) k0 bel lt0) (trodAll_cons_mk (shut_int Try.underlying3 w1) trodAll_mk0)), rfl, bel.frame _, fun h => by cases h⟩
theorem over : Rows.fnExactZeroGroupsRow.holds Try.pinned (OpenSpec.ofChange Rows.fnExactZeroGroupsSpec) :=
  OpenClaim.holds_of_wide 6 Try.f6 rfl rfl rfl rfl rfl rfl rfl ⟨rfl, rfl, rfl, rfl, rfl⟩ rfl rfl rfl rfl rfl (by kernel_rfl) Try.func6 (by kernel_rfl)
    (of_decide_eq_true (by kernel_rfl)) (by unfold Func.isWrapper; first | (rw [if_pos (by decide +kernel)]; kernel_rfl) | (rw [if_neg (by decide +kernel)]; exact ⟨rfl, rfl⟩))
    (fun os started H enc _ => lifted os started H enc)
theorem proved : Rows.FnExactZeroGroupsSaid := over
#print axioms proved
end Go.Proofs.Ytdbccenmfdjkjaa.fnExactZeroGroups
namespace Go.Proofs.Ytdbccenmfdjkjaa
/-- The row, under a short name, for the claim. -/
theorem fnExactZeroGroups_holds : Rows.FnExactZeroGroupsSaid := fnExactZeroGroups.proved
end Go.Proofs.Ytdbccenmfdjkjaa
