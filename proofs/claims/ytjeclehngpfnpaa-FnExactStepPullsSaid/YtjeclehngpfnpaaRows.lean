/-
  No cell of these rows narrows 'for every input' (looked for: loops, veiled, ifaces, maps, wideKeys, modest, calm, conditions, laid).
  DERIVED. THE GIVEN ROWS OF THIS SEAT. 6 by the template 'for every input the law returns true; each argument reads behind the call as it read before'; 0 by the template 'total and deterministic' (their statements: YtjeclehngpfnpaaTotals.lean).
  GIVEN WITH THE SEED: the statements are not yours to turn. If you find one false, say at which input.
  Laid BY PROGRAM, IN A SANDBOX (cutbox-rows.mjs): the forced cells as the released guide's own fill.sh prints them over the translation 46fdf4096ad4016b… (all of the seat's roots in one cut). By AI agents, Wed Nov 11 2026. No macro, syntax, notation, axiom, sorry.
-/
import Derived.Test.YtjeclehngpfnpaaChecked
import GoSem.Claim
import GoSem.ClaimJoined
import GoSem.ClaimMapViews
import Derived.JoinedTies
import Derived.KernelRfl
namespace Go.Proofs.Ytjeclehngpfnpaa
/- THE CELL 'sum', in the pinned program and in every row, IS THE sha256 OF THE DUMP (.gsa) THAT YtjeclehngpfnpaaProg.lean LOADS. Nothing in Lean hashes anything: it is a label: what it is worth is what the hold of that sum in a sandbox is worth. -/
noncomputable def Try.pinned : Pinned := { name := "ytjeclehngpfnpaa", sum := "46fdf4096ad4016bf886c05140521b099ebbc704f02edc65aabe1c9f6415d3e4", checked := Try.checked }
namespace Rows
def none {H : Type} : Left H := { results := [], args := [] }

/-- 'laws.FnExactMostLoad': WHATEVER THE INPUT: true; the input reads as it did. -/
def fnExactMostLoadSpec : ChangeSpec := { name := "fnExactMostLoad", fn := fun _ => fun
  | [d1, d2] => { results := [.lit (.bool true)], args := [d1, d2] }
  | _ => none }
def fnExactMostLoadRow : OpenClaim := { program := "ytjeclehngpfnpaa", sum := "46fdf4096ad4016bf886c05140521b099ebbc704f02edc65aabe1c9f6415d3e4", func := "loop.example/g01159/laws.FnExactMostLoad", spec := "fnExactMostLoad", apart := false }
def FnExactMostLoadSaid : Prop := fnExactMostLoadRow.holds Try.pinned (OpenSpec.ofChange fnExactMostLoadSpec)

/-- ITS FALSE NEIGHBOUR: 'it returns false'. Refute it at one input. -/
def fnExactMostLoadWrong : ChangeSpec := { name := "fnExactMostLoad", fn := fun _ => fun
  | [d1, d2] => { results := [.lit (.bool false)], args := [d1, d2] }
  | _ => none }
def FnExactMostLoadWrongFalsely : Prop := fnExactMostLoadRow.holds Try.pinned (OpenSpec.ofChange fnExactMostLoadWrong)

/-- 'laws.FnExactHaulFor': WHATEVER THE INPUT: true; the input reads as it did. -/
def fnExactHaulForSpec : ChangeSpec := { name := "fnExactHaulFor", fn := fun _ => fun
  | [d1, d2] => { results := [.lit (.bool true)], args := [d1, d2] }
  | _ => none }
def fnExactHaulForRow : OpenClaim := { program := "ytjeclehngpfnpaa", sum := "46fdf4096ad4016bf886c05140521b099ebbc704f02edc65aabe1c9f6415d3e4", func := "loop.example/g01159/laws.FnExactHaulFor", spec := "fnExactHaulFor", apart := false }
def FnExactHaulForSaid : Prop := fnExactHaulForRow.holds Try.pinned (OpenSpec.ofChange fnExactHaulForSpec)

/-- ITS FALSE NEIGHBOUR: 'it returns false'. Refute it at one input. -/
def fnExactHaulForWrong : ChangeSpec := { name := "fnExactHaulFor", fn := fun _ => fun
  | [d1, d2] => { results := [.lit (.bool false)], args := [d1, d2] }
  | _ => none }
def FnExactHaulForWrongFalsely : Prop := fnExactHaulForRow.holds Try.pinned (OpenSpec.ofChange fnExactHaulForWrong)

/-- 'laws.FnExactPullFor': WHATEVER THE INPUT: true; the input reads as it did. -/
def fnExactPullForSpec : ChangeSpec := { name := "fnExactPullFor", fn := fun _ => fun
  | [d1, d2] => { results := [.lit (.bool true)], args := [d1, d2] }
  | _ => none }
def fnExactPullForRow : OpenClaim := { program := "ytjeclehngpfnpaa", sum := "46fdf4096ad4016bf886c05140521b099ebbc704f02edc65aabe1c9f6415d3e4", func := "loop.example/g01159/laws.FnExactPullFor", spec := "fnExactPullFor", apart := false }
def FnExactPullForSaid : Prop := fnExactPullForRow.holds Try.pinned (OpenSpec.ofChange fnExactPullForSpec)

/-- ITS FALSE NEIGHBOUR: 'it returns false'. Refute it at one input. -/
def fnExactPullForWrong : ChangeSpec := { name := "fnExactPullFor", fn := fun _ => fun
  | [d1, d2] => { results := [.lit (.bool false)], args := [d1, d2] }
  | _ => none }
def FnExactPullForWrongFalsely : Prop := fnExactPullForRow.holds Try.pinned (OpenSpec.ofChange fnExactPullForWrong)

/-- 'laws.FnExactStepPulls': WHATEVER THE INPUT: true; the input reads as it did. -/
def fnExactStepPullsSpec : ChangeSpec := { name := "fnExactStepPulls", fn := fun _ => fun
  | [d1, d2] => { results := [.lit (.bool true)], args := [d1, d2] }
  | _ => none }
def fnExactStepPullsRow : OpenClaim := { program := "ytjeclehngpfnpaa", sum := "46fdf4096ad4016bf886c05140521b099ebbc704f02edc65aabe1c9f6415d3e4", func := "loop.example/g01159/laws.FnExactStepPulls", spec := "fnExactStepPulls", apart := false }
def FnExactStepPullsSaid : Prop := fnExactStepPullsRow.holds Try.pinned (OpenSpec.ofChange fnExactStepPullsSpec)

/-- ITS FALSE NEIGHBOUR: 'it returns false'. Refute it at one input. -/
def fnExactStepPullsWrong : ChangeSpec := { name := "fnExactStepPulls", fn := fun _ => fun
  | [d1, d2] => { results := [.lit (.bool false)], args := [d1, d2] }
  | _ => none }
def FnExactStepPullsWrongFalsely : Prop := fnExactStepPullsRow.holds Try.pinned (OpenSpec.ofChange fnExactStepPullsWrong)

/-- 'laws.FnExactExactGain': WHATEVER THE INPUT: true; the input reads as it did. -/
def fnExactExactGainSpec : ChangeSpec := { name := "fnExactExactGain", fn := fun _ => fun
  | [d1, d2] => { results := [.lit (.bool true)], args := [d1, d2] }
  | _ => none }
def fnExactExactGainRow : OpenClaim := { program := "ytjeclehngpfnpaa", sum := "46fdf4096ad4016bf886c05140521b099ebbc704f02edc65aabe1c9f6415d3e4", func := "loop.example/g01159/laws.FnExactExactGain", spec := "fnExactExactGain", unfollowed := true, recurses := true, apart := false }
def FnExactExactGainSaid : Prop := fnExactExactGainRow.holds Try.pinned (OpenSpec.ofChange fnExactExactGainSpec)

/-- ITS FALSE NEIGHBOUR: 'it returns false'. Refute it at one input. -/
def fnExactExactGainWrong : ChangeSpec := { name := "fnExactExactGain", fn := fun _ => fun
  | [d1, d2] => { results := [.lit (.bool false)], args := [d1, d2] }
  | _ => none }
def FnExactExactGainWrongFalsely : Prop := fnExactExactGainRow.holds Try.pinned (OpenSpec.ofChange fnExactExactGainWrong)

/-- 'laws.FnExactReachGain': WHATEVER THE INPUT: true; the input reads as it did. -/
def fnExactReachGainSpec : ChangeSpec := { name := "fnExactReachGain", fn := fun _ => fun
  | [d1, d2] => { results := [.lit (.bool true)], args := [d1, d2] }
  | _ => none }
def fnExactReachGainRow : OpenClaim := { program := "ytjeclehngpfnpaa", sum := "46fdf4096ad4016bf886c05140521b099ebbc704f02edc65aabe1c9f6415d3e4", func := "loop.example/g01159/laws.FnExactReachGain", spec := "fnExactReachGain", unfollowed := true, recurses := true, apart := false }
def FnExactReachGainSaid : Prop := fnExactReachGainRow.holds Try.pinned (OpenSpec.ofChange fnExactReachGainSpec)

/-- ITS FALSE NEIGHBOUR: 'it returns false'. Refute it at one input. -/
def fnExactReachGainWrong : ChangeSpec := { name := "fnExactReachGain", fn := fun _ => fun
  | [d1, d2] => { results := [.lit (.bool false)], args := [d1, d2] }
  | _ => none }
def FnExactReachGainWrongFalsely : Prop := fnExactReachGainRow.holds Try.pinned (OpenSpec.ofChange fnExactReachGainWrong)

/- THE SECOND FORM. 'bulk': how many values and letters a reading holds, each counted each time it is reached (what is shared counts as often as it is met; a slice's spare places count too). A statement '..UptoSaid' is the law's where the arguments, and the package variables that the reading takes, are together of bulk at most 1048576: NARROWER than '..Said'. Prove '..Said' where nothing that the law and all that it calls make is longer than what came in: it says more and counts as full. Else prove '..UptoSaid'. A law counts once. -/
mutual
def uptoBulk {H : Type} : DataW H → Nat
  | .lit (.string bytes) => bytes.length + 1
  | .lit _ => 1
  | .nil => 1
  | .ptr d => uptoBulk d + 1
  | .slice elems spare => uptoBulkAll elems + uptoBulkAll spare + 1
  | .agg parts => uptoBulkAll parts + 1
  | .iface _ d => uptoBulk d + 1
  | .map entries => uptoBulkEntries entries + 1
  | .held _ => 1
def uptoBulkAll {H : Type} : List (DataW H) → Nat
  | [] => 0
  | d :: r => uptoBulk d + uptoBulkAll r
def uptoBulkEntries {H : Type} : List (Lit × DataW H) → Nat
  | [] => 0
  | x :: r => uptoBulkEntry x + uptoBulkEntries r
def uptoBulkEntry {H : Type} : Lit × DataW H → Nat
  | (.string bytes, d) => bytes.length + uptoBulk d + 1
  | (_, d) => uptoBulk d + 1
 end
def uptoSmall : (H : Type) → List (DataW H) → Bool := fun _ ds => decide (uptoBulkAll ds ≤ 1048576)
def OpenSpec.upto (s : _root_.Go.ChangeSpec) : _root_.Go.OpenSpec := { _root_.Go.OpenSpec.ofChange s with cond := some uptoSmall }

/-- 'laws.FnExactMostLoad', WHERE WHAT IT READS IS OF BULK AT MOST 1048576: true; the input reads as it did. -/
def fnExactMostLoadUptoRow : OpenClaim := { program := "ytjeclehngpfnpaa", sum := "46fdf4096ad4016bf886c05140521b099ebbc704f02edc65aabe1c9f6415d3e4", func := "loop.example/g01159/laws.FnExactMostLoad", spec := "fnExactMostLoad", apart := false, narrowed := true }
def FnExactMostLoadUptoSaid : Prop := fnExactMostLoadUptoRow.holds Try.pinned (OpenSpec.upto fnExactMostLoadSpec)

/-- 'laws.FnExactHaulFor', WHERE WHAT IT READS IS OF BULK AT MOST 1048576: true; the input reads as it did. -/
def fnExactHaulForUptoRow : OpenClaim := { program := "ytjeclehngpfnpaa", sum := "46fdf4096ad4016bf886c05140521b099ebbc704f02edc65aabe1c9f6415d3e4", func := "loop.example/g01159/laws.FnExactHaulFor", spec := "fnExactHaulFor", apart := false, narrowed := true }
def FnExactHaulForUptoSaid : Prop := fnExactHaulForUptoRow.holds Try.pinned (OpenSpec.upto fnExactHaulForSpec)

/-- 'laws.FnExactPullFor', WHERE WHAT IT READS IS OF BULK AT MOST 1048576: true; the input reads as it did. -/
def fnExactPullForUptoRow : OpenClaim := { program := "ytjeclehngpfnpaa", sum := "46fdf4096ad4016bf886c05140521b099ebbc704f02edc65aabe1c9f6415d3e4", func := "loop.example/g01159/laws.FnExactPullFor", spec := "fnExactPullFor", apart := false, narrowed := true }
def FnExactPullForUptoSaid : Prop := fnExactPullForUptoRow.holds Try.pinned (OpenSpec.upto fnExactPullForSpec)

/-- 'laws.FnExactStepPulls', WHERE WHAT IT READS IS OF BULK AT MOST 1048576: true; the input reads as it did. -/
def fnExactStepPullsUptoRow : OpenClaim := { program := "ytjeclehngpfnpaa", sum := "46fdf4096ad4016bf886c05140521b099ebbc704f02edc65aabe1c9f6415d3e4", func := "loop.example/g01159/laws.FnExactStepPulls", spec := "fnExactStepPulls", apart := false, narrowed := true }
def FnExactStepPullsUptoSaid : Prop := fnExactStepPullsUptoRow.holds Try.pinned (OpenSpec.upto fnExactStepPullsSpec)

/-- 'laws.FnExactExactGain', WHERE WHAT IT READS IS OF BULK AT MOST 1048576: true; the input reads as it did. -/
def fnExactExactGainUptoRow : OpenClaim := { program := "ytjeclehngpfnpaa", sum := "46fdf4096ad4016bf886c05140521b099ebbc704f02edc65aabe1c9f6415d3e4", func := "loop.example/g01159/laws.FnExactExactGain", spec := "fnExactExactGain", unfollowed := true, recurses := true, apart := false, narrowed := true }
def FnExactExactGainUptoSaid : Prop := fnExactExactGainUptoRow.holds Try.pinned (OpenSpec.upto fnExactExactGainSpec)

/-- 'laws.FnExactReachGain', WHERE WHAT IT READS IS OF BULK AT MOST 1048576: true; the input reads as it did. -/
def fnExactReachGainUptoRow : OpenClaim := { program := "ytjeclehngpfnpaa", sum := "46fdf4096ad4016bf886c05140521b099ebbc704f02edc65aabe1c9f6415d3e4", func := "loop.example/g01159/laws.FnExactReachGain", spec := "fnExactReachGain", unfollowed := true, recurses := true, apart := false, narrowed := true }
def FnExactReachGainUptoSaid : Prop := fnExactReachGainUptoRow.holds Try.pinned (OpenSpec.upto fnExactReachGainSpec)

end Rows
end Go.Proofs.Ytjeclehngpfnpaa
