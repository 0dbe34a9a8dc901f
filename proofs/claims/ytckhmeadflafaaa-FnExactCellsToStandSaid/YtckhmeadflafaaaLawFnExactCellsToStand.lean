/- The law FnExactCellsToStand holds: for every input the call returns true, and each argument reads afterwards as it read before. No conditions. -/
import Derived.Test.YtckhmeadflafaaaRows
import Derived.Test.YtckhmeadflafaaaXCsx24
import Derived.Test.YtckhmeadflafaaaPureFnExactCellsToStand
import Derived.Test.YtckhmeadflafaaaOpenCs
import Derived.WalkKit
import Derived.ProofKit
import Derived.OpenShut
import Derived.ShutString
import Derived.ChangeOld
import Derived.Below
import Derived.SizedLaws
namespace Go.Proofs.Ytckhmeadflafaaa.fnExactCellsToStand
open Go.ChangeShapes Go.WideShapes Go.ChangeAt Go.RowKit Go.Proofs.Ytckhmeadflafaaa.Opening Go.Proofs.Ytckhmeadflafaaa.XCs Go.Proofs.YtckhmeadflafaaaW.PrintWords Go.Proofs.YtckhmeadflafaaaW.PrintLast
open Go.ChangeMaps (open_string shut_string)
set_option linter.unusedVariables false
theorem own : ownKnob Try.prog.godebug = none := by kernel_rfl
theorem laidOut : laidOutB Try.prog = true := by kernel_rfl
theorem wf_I64 {x : Int} (h : (Lit.int .i64 x).wf = true) : I64 x := by
  have hmin : IntKind.i64.min = -9223372036854775808 := rfl
  have hmax : IntKind.i64.max = 9223372036854775807 := rfl
  simp only [Lit.wf, Bool.and_eq_true, decide_eq_true_eq] at h
  unfold I64; omega
theorem cellsInt : Try.prog.cellsOf 3 = 1 := by kernel_rfl
theorem flat49 : Flat Try.prog 49 2 := flat_array Try.underlying49 Try.underlying3 cellsInt (by kernel_rfl)
set_option maxRecDepth 100000 in
theorem lifted (os : Os) (started : os.Started) (H : Type) (enc : TypeId × Value → H) :
    ReturnsInHanded {} Try.checked os 8 .any (Rows.fnExactCellsToStandSpec.pre6 enc Try.prog Try.f8 Rows.fnExactCellsToStandRow.domain false) (Rows.fnExactCellsToStandSpec.post enc Try.prog Try.f8 false true false false) := by
  refine returnsInHanded_of_change_sized (C := Try.checked) own started (by kernel_rfl) Try.func8
    (ChangeSpec.witness6 (enc := enc) (C := Try.checked) false ⟨#[], #[.slice none 0 0], []⟩ 8 (by kernel_rfl) (by kernel_rfl) (by kernel_rfl) (by kernel_rfl)) ?_
  intro W base args ds gs before hval0 hW hcnd hsz0 _
  have hsz : (DataW.weightsEach Try.prog (Try.f8.params.toList ++ Rows.fnExactCellsToStandSpec.plain.varTypes Try.prog) (ds ++ gs)).all (· ≤ reachBytes) = true := hsz0
  have hval : ∀ (j : Nat) t v, Try.f8.params[j]? = some t → args[j]? = some v → Value.okWide Try.prog W .any base t v := hval0
  have hW' := hW
  obtain ⟨p, q, hA0, hV, rfl, hfz, hnd⟩ := hW
  have hA : DataW.TrodAll enc Try.prog W 0 (fun _ => true) true Try.f8.params.toList args.toList ds p := hA0
  rw [Try.params8] at hA hval hsz
  obtain ⟨v0, vs0, d0, ds0, p0, q0, hargs, rfl, rfl, h0, r0⟩ := trodAll_cons hA
  obtain ⟨rfl, rfl, rfl⟩ := trodAll_nil r0
  obtain rfl : args = #[v0] := by cases args; simp_all
  obtain ⟨rfl, rfl⟩ := trodVars_none hV
  obtain ⟨a0, len0, cap0, rfl⟩ := okWide_slice Try.underlying22 (hval 0 22 v0 rfl rfl)
  have k0 := h0
  have lt0 : ∀ x ∈ p0, x.block < W.heap.size := by obtain ⟨m, hm⟩ := k0; exact DataW.trod_lt m _ _ _ hm
  have y0 : len0 * 16 ≤ 140737488351232 := sized_flats hsz (j := 0) (t := 22) rfl rfl Try.underlying22 (by kernel_rfl) h0
  obtain ⟨rows0, hl0, hc0, hm0, hw0, ha0⟩ := open_flats Try.underlying22 flat49 h0
  have C0 : Kd.C k49 W a0 (rows0.map (fun g => (⟨g 0, g 1⟩ : S49))).length (rows0.map (fun g => (⟨g 0, g 1⟩ : S49))) := flats_C k49 (fun g => (⟨g 0, g 1⟩ : S49)) rfl (fun _ g => ⟨[.int .i64 (g 0)], _, rfl, rfl, rfl⟩) hl0 hm0 ha0
  obtain ⟨l0, el0⟩ : ∃ l, l = rows0.map (fun g => (⟨g 0, g 1⟩ : S49)) := ⟨_, rfl⟩
  rw [← el0] at C0
  have hll0 : len0 = l0.length := by rw [el0, List.length_map]; exact hl0.symm
  have hx0 : ∀ x ∈ l0, I64 x.f0 ∧ I64 x.f1 := by
    intro x hx
    rw [el0, List.mem_map] at hx
    obtain ⟨g, hg, rfl⟩ := hx
    exact ⟨wf_I64 (hw0 g hg 0 (by decide)), wf_I64 (hw0 g hg 1 (by decide))⟩
  clear el0 ha0 hw0
  subst hll0
  clear hA0 hval0 hsz0 hsz
  obtain ⟨k, h⟩ := pure l0 y0 hx0
  refine (laws_FnExactCellsToStand.calls k _ _ l0 true W C0 hc0 h).mono fun e W' ⟨he, bel0⟩ => ?_
  have bel : Below W.heap.size W W' := bel0
  subst he
  exact ⟨_, rfl, _, _, _, [], _, [], hW', trodAll_mk1 (shut_bool Try.underlying4 _), (trodAll_cons_mk (Below.trod laidOut (by kernel_rfl) (of_decide_eq_true (by kernel_rfl)) k0 bel lt0) trodAll_mk0), rfl, bel.frame _, fun h => by cases h⟩
theorem over : Rows.fnExactCellsToStandRow.holds Try.pinned (OpenSpec.ofChange Rows.fnExactCellsToStandSpec) :=
  OpenClaim.holds_of_wide 8 Try.f8 rfl rfl rfl rfl rfl rfl rfl ⟨rfl, rfl, rfl, rfl, rfl⟩ rfl rfl rfl rfl rfl (by kernel_rfl) Try.func8 (by kernel_rfl)
    (of_decide_eq_true (by kernel_rfl)) (by unfold Func.isWrapper; first | (rw [if_pos (by decide +kernel)]; kernel_rfl) | (rw [if_neg (by decide +kernel)]; exact ⟨rfl, rfl⟩))
    (fun os started H enc _ => lifted os started H enc)
theorem proved : Rows.FnExactCellsToStandSaid := over
#print axioms proved
end Go.Proofs.Ytckhmeadflafaaa.fnExactCellsToStand
namespace Go.Proofs.Ytckhmeadflafaaa
/-- The row, under a short name, for the claim. -/
theorem fnExactCellsToStand_holds : Rows.FnExactCellsToStandSaid := fnExactCellsToStand.proved
end Go.Proofs.Ytckhmeadflafaaa
