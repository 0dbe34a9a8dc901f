/-
  No cell of these rows narrows 'for every input' (looked for: loops, veiled, ifaces, maps, wideKeys, modest, calm, conditions, laid).
  DERIVED. THE GIVEN ROWS OF THIS SEAT. 8 by the template 'for every input the law returns true; each argument reads behind the call as it read before'; 0 by the template 'total and deterministic' (their statements: YtkpdddlecibbnaaTotals.lean).
  GIVEN WITH THE SEED: the statements are not yours to turn. If you find one false, say at which input.
  Laid BY PROGRAM, IN A SANDBOX (cutbox-rows.mjs): the forced cells as the released guide's own fill.sh prints them over the translation 5316b775d6f7ec74… (all of the seat's roots in one cut). By AI agents, Wed Nov 11 2026. No macro, syntax, notation, axiom, sorry.
-/
import Derived.Test.YtkpdddlecibbnaaChecked
import GoSem.Claim
import GoSem.ClaimJoined
import GoSem.ClaimMapViews
import Derived.JoinedTies
import Derived.KernelRfl
namespace Go.Proofs.Ytkpdddlecibbnaa
/- THE CELL 'sum', in the pinned program and in every row, IS THE sha256 OF THE DUMP (.gsa) THAT YtkpdddlecibbnaaProg.lean LOADS. Nothing in Lean hashes anything: it is a label: what it is worth is what the hold of that sum in a sandbox is worth. -/
noncomputable def Try.pinned : Pinned := { name := "ytkpdddlecibbnaa", sum := "5316b775d6f7ec7477b435d4de781f7bc0fd9ef7305be22653d3f2649c50788c", checked := Try.checked }
namespace Rows
def none {H : Type} : Left H := { results := [], args := [] }

/-- 'laws.FnExactIsRaft': WHATEVER THE INPUT: true; the input reads as it did. -/
def fnExactIsRaftSpec : ChangeSpec := { name := "fnExactIsRaft", fn := fun _ => fun
  | [d] => { results := [.lit (.bool true)], args := [d] }
  | _ => none }
def fnExactIsRaftRow : OpenClaim := { program := "ytkpdddlecibbnaa", sum := "5316b775d6f7ec7477b435d4de781f7bc0fd9ef7305be22653d3f2649c50788c", func := "loop.example/g01159/laws.FnExactIsRaft", spec := "fnExactIsRaft", apart := false }
def FnExactIsRaftSaid : Prop := fnExactIsRaftRow.holds Try.pinned (OpenSpec.ofChange fnExactIsRaftSpec)

/-- ITS FALSE NEIGHBOUR: 'it returns false'. Refute it at one input. -/
def fnExactIsRaftWrong : ChangeSpec := { name := "fnExactIsRaft", fn := fun _ => fun
  | [d] => { results := [.lit (.bool false)], args := [d] }
  | _ => none }
def FnExactIsRaftWrongFalsely : Prop := fnExactIsRaftRow.holds Try.pinned (OpenSpec.ofChange fnExactIsRaftWrong)

/-- 'laws.FnExactSafeSets': WHATEVER THE INPUT: true; the input reads as it did. -/
def fnExactSafeSetsSpec : ChangeSpec := { name := "fnExactSafeSets", fn := fun _ => fun
  | [d1, d2] => { results := [.lit (.bool true)], args := [d1, d2] }
  | _ => none }
def fnExactSafeSetsRow : OpenClaim := { program := "ytkpdddlecibbnaa", sum := "5316b775d6f7ec7477b435d4de781f7bc0fd9ef7305be22653d3f2649c50788c", func := "loop.example/g01159/laws.FnExactSafeSets", spec := "fnExactSafeSets", unfollowed := true, recurses := true, apart := false }
def FnExactSafeSetsSaid : Prop := fnExactSafeSetsRow.holds Try.pinned (OpenSpec.ofChange fnExactSafeSetsSpec)

/-- ITS FALSE NEIGHBOUR: 'it returns false'. Refute it at one input. -/
def fnExactSafeSetsWrong : ChangeSpec := { name := "fnExactSafeSets", fn := fun _ => fun
  | [d1, d2] => { results := [.lit (.bool false)], args := [d1, d2] }
  | _ => none }
def FnExactSafeSetsWrongFalsely : Prop := fnExactSafeSetsRow.holds Try.pinned (OpenSpec.ofChange fnExactSafeSetsWrong)

/-- 'laws.FnExactCountSafe': WHATEVER THE INPUT: true; the input reads as it did. -/
def fnExactCountSafeSpec : ChangeSpec := { name := "fnExactCountSafe", fn := fun _ => fun
  | [d1, d2] => { results := [.lit (.bool true)], args := [d1, d2] }
  | _ => none }
def fnExactCountSafeRow : OpenClaim := { program := "ytkpdddlecibbnaa", sum := "5316b775d6f7ec7477b435d4de781f7bc0fd9ef7305be22653d3f2649c50788c", func := "loop.example/g01159/laws.FnExactCountSafe", spec := "fnExactCountSafe", unfollowed := true, recurses := true, apart := false }
def FnExactCountSafeSaid : Prop := fnExactCountSafeRow.holds Try.pinned (OpenSpec.ofChange fnExactCountSafeSpec)

/-- ITS FALSE NEIGHBOUR: 'it returns false'. Refute it at one input. -/
def fnExactCountSafeWrong : ChangeSpec := { name := "fnExactCountSafe", fn := fun _ => fun
  | [d1, d2] => { results := [.lit (.bool false)], args := [d1, d2] }
  | _ => none }
def FnExactCountSafeWrongFalsely : Prop := fnExactCountSafeRow.holds Try.pinned (OpenSpec.ofChange fnExactCountSafeWrong)

/-- 'laws.FnExactRaftReserve': WHATEVER THE INPUT: true; the input reads as it did. -/
def fnExactRaftReserveSpec : ChangeSpec := { name := "fnExactRaftReserve", fn := fun _ => fun
  | [d1, d2, d3] => { results := [.lit (.bool true)], args := [d1, d2, d3] }
  | _ => none }
def fnExactRaftReserveRow : OpenClaim := { program := "ytkpdddlecibbnaa", sum := "5316b775d6f7ec7477b435d4de781f7bc0fd9ef7305be22653d3f2649c50788c", func := "loop.example/g01159/laws.FnExactRaftReserve", spec := "fnExactRaftReserve", unfollowed := true, recurses := true, apart := false }
def FnExactRaftReserveSaid : Prop := fnExactRaftReserveRow.holds Try.pinned (OpenSpec.ofChange fnExactRaftReserveSpec)

/-- ITS FALSE NEIGHBOUR: 'it returns false'. Refute it at one input. -/
def fnExactRaftReserveWrong : ChangeSpec := { name := "fnExactRaftReserve", fn := fun _ => fun
  | [d1, d2, d3] => { results := [.lit (.bool false)], args := [d1, d2, d3] }
  | _ => none }
def FnExactRaftReserveWrongFalsely : Prop := fnExactRaftReserveRow.holds Try.pinned (OpenSpec.ofChange fnExactRaftReserveWrong)

/-- 'laws.FnExactPairSteps': WHATEVER THE INPUT: true; the input reads as it did. -/
def fnExactPairStepsSpec : ChangeSpec := { name := "fnExactPairSteps", fn := fun _ => fun
  | [d1, d2] => { results := [.lit (.bool true)], args := [d1, d2] }
  | _ => none }
def fnExactPairStepsRow : OpenClaim := { program := "ytkpdddlecibbnaa", sum := "5316b775d6f7ec7477b435d4de781f7bc0fd9ef7305be22653d3f2649c50788c", func := "loop.example/g01159/laws.FnExactPairSteps", spec := "fnExactPairSteps", unfollowed := true, recurses := true, apart := false }
def FnExactPairStepsSaid : Prop := fnExactPairStepsRow.holds Try.pinned (OpenSpec.ofChange fnExactPairStepsSpec)

/-- ITS FALSE NEIGHBOUR: 'it returns false'. Refute it at one input. -/
def fnExactPairStepsWrong : ChangeSpec := { name := "fnExactPairSteps", fn := fun _ => fun
  | [d1, d2] => { results := [.lit (.bool false)], args := [d1, d2] }
  | _ => none }
def FnExactPairStepsWrongFalsely : Prop := fnExactPairStepsRow.holds Try.pinned (OpenSpec.ofChange fnExactPairStepsWrong)

/-- 'laws.FnExactLeastOwn': WHATEVER THE INPUT: true; the input reads as it did. -/
def fnExactLeastOwnSpec : ChangeSpec := { name := "fnExactLeastOwn", fn := fun _ => fun
  | [d1, d2] => { results := [.lit (.bool true)], args := [d1, d2] }
  | _ => none }
def fnExactLeastOwnRow : OpenClaim := { program := "ytkpdddlecibbnaa", sum := "5316b775d6f7ec7477b435d4de781f7bc0fd9ef7305be22653d3f2649c50788c", func := "loop.example/g01159/laws.FnExactLeastOwn", spec := "fnExactLeastOwn", unfollowed := true, recurses := true, apart := false }
def FnExactLeastOwnSaid : Prop := fnExactLeastOwnRow.holds Try.pinned (OpenSpec.ofChange fnExactLeastOwnSpec)

/-- ITS FALSE NEIGHBOUR: 'it returns false'. Refute it at one input. -/
def fnExactLeastOwnWrong : ChangeSpec := { name := "fnExactLeastOwn", fn := fun _ => fun
  | [d1, d2] => { results := [.lit (.bool false)], args := [d1, d2] }
  | _ => none }
def FnExactLeastOwnWrongFalsely : Prop := fnExactLeastOwnRow.holds Try.pinned (OpenSpec.ofChange fnExactLeastOwnWrong)

/-- 'laws.FnExactRaftSide': WHATEVER THE INPUT: true; the input reads as it did. -/
def fnExactRaftSideSpec : ChangeSpec := { name := "fnExactRaftSide", fn := fun _ => fun
  | [d1, d2, d3] => { results := [.lit (.bool true)], args := [d1, d2, d3] }
  | _ => none }
def fnExactRaftSideRow : OpenClaim := { program := "ytkpdddlecibbnaa", sum := "5316b775d6f7ec7477b435d4de781f7bc0fd9ef7305be22653d3f2649c50788c", func := "loop.example/g01159/laws.FnExactRaftSide", spec := "fnExactRaftSide", unfollowed := true, recurses := true, apart := false }
def FnExactRaftSideSaid : Prop := fnExactRaftSideRow.holds Try.pinned (OpenSpec.ofChange fnExactRaftSideSpec)

/-- ITS FALSE NEIGHBOUR: 'it returns false'. Refute it at one input. -/
def fnExactRaftSideWrong : ChangeSpec := { name := "fnExactRaftSide", fn := fun _ => fun
  | [d1, d2, d3] => { results := [.lit (.bool false)], args := [d1, d2, d3] }
  | _ => none }
def FnExactRaftSideWrongFalsely : Prop := fnExactRaftSideRow.holds Try.pinned (OpenSpec.ofChange fnExactRaftSideWrong)

/-- 'laws.FnExactIsSafeOrder': WHATEVER THE INPUT: true; the input reads as it did. -/
def fnExactIsSafeOrderSpec : ChangeSpec := { name := "fnExactIsSafeOrder", fn := fun _ => fun
  | [d1, d2, d3] => { results := [.lit (.bool true)], args := [d1, d2, d3] }
  | _ => none }
def fnExactIsSafeOrderRow : OpenClaim := { program := "ytkpdddlecibbnaa", sum := "5316b775d6f7ec7477b435d4de781f7bc0fd9ef7305be22653d3f2649c50788c", func := "loop.example/g01159/laws.FnExactIsSafeOrder", spec := "fnExactIsSafeOrder", unfollowed := true, recurses := true, apart := false }
def FnExactIsSafeOrderSaid : Prop := fnExactIsSafeOrderRow.holds Try.pinned (OpenSpec.ofChange fnExactIsSafeOrderSpec)

/-- ITS FALSE NEIGHBOUR: 'it returns false'. Refute it at one input. -/
def fnExactIsSafeOrderWrong : ChangeSpec := { name := "fnExactIsSafeOrder", fn := fun _ => fun
  | [d1, d2, d3] => { results := [.lit (.bool false)], args := [d1, d2, d3] }
  | _ => none }
def FnExactIsSafeOrderWrongFalsely : Prop := fnExactIsSafeOrderRow.holds Try.pinned (OpenSpec.ofChange fnExactIsSafeOrderWrong)

/- THE SECOND FORM. 'bulk': how many values and letters a reading holds, each counted each time it is reached (what is shared counts as often as it is met; a slice's spare places count too). A statement '..UptoSaid' is the law's where the arguments, and the package variables that the reading takes, are together of bulk at most 1048576: NARROWER than '..Said'. Prove '..Said' where nothing that the law and all that it calls make is longer than what came in: it says more and counts as full. Else prove '..UptoSaid'. A law counts once. -/
mutual
def uptoBulk {H : Type} : DataW H → Nat
  | .lit (.string bytes) => bytes.length + 1
  | .lit _ => 1
  | .nil => 1
  | .ptr d => uptoBulk d + 1
  | .slice elems spare => uptoBulkAll elems + uptoBulkAll spare + 1
  | .agg parts => uptoBulkAll parts + 1
  | .iface _ d => uptoBulk d + 1
  | .map entries => uptoBulkEntries entries + 1
  | .held _ => 1
def uptoBulkAll {H : Type} : List (DataW H) → Nat
  | [] => 0
  | d :: r => uptoBulk d + uptoBulkAll r
def uptoBulkEntries {H : Type} : List (Lit × DataW H) → Nat
  | [] => 0
  | x :: r => uptoBulkEntry x + uptoBulkEntries r
def uptoBulkEntry {H : Type} : Lit × DataW H → Nat
  | (.string bytes, d) => bytes.length + uptoBulk d + 1
  | (_, d) => uptoBulk d + 1
 end
def uptoSmall : (H : Type) → List (DataW H) → Bool := fun _ ds => decide (uptoBulkAll ds ≤ 1048576)
def OpenSpec.upto (s : _root_.Go.ChangeSpec) : _root_.Go.OpenSpec := { _root_.Go.OpenSpec.ofChange s with cond := some uptoSmall }

/-- 'laws.FnExactIsRaft', WHERE WHAT IT READS IS OF BULK AT MOST 1048576: true; the input reads as it did. -/
def fnExactIsRaftUptoRow : OpenClaim := { program := "ytkpdddlecibbnaa", sum := "5316b775d6f7ec7477b435d4de781f7bc0fd9ef7305be22653d3f2649c50788c", func := "loop.example/g01159/laws.FnExactIsRaft", spec := "fnExactIsRaft", apart := false, narrowed := true }
def FnExactIsRaftUptoSaid : Prop := fnExactIsRaftUptoRow.holds Try.pinned (OpenSpec.upto fnExactIsRaftSpec)

/-- 'laws.FnExactSafeSets', WHERE WHAT IT READS IS OF BULK AT MOST 1048576: true; the input reads as it did. -/
def fnExactSafeSetsUptoRow : OpenClaim := { program := "ytkpdddlecibbnaa", sum := "5316b775d6f7ec7477b435d4de781f7bc0fd9ef7305be22653d3f2649c50788c", func := "loop.example/g01159/laws.FnExactSafeSets", spec := "fnExactSafeSets", unfollowed := true, recurses := true, apart := false, narrowed := true }
def FnExactSafeSetsUptoSaid : Prop := fnExactSafeSetsUptoRow.holds Try.pinned (OpenSpec.upto fnExactSafeSetsSpec)

/-- 'laws.FnExactCountSafe', WHERE WHAT IT READS IS OF BULK AT MOST 1048576: true; the input reads as it did. -/
def fnExactCountSafeUptoRow : OpenClaim := { program := "ytkpdddlecibbnaa", sum := "5316b775d6f7ec7477b435d4de781f7bc0fd9ef7305be22653d3f2649c50788c", func := "loop.example/g01159/laws.FnExactCountSafe", spec := "fnExactCountSafe", unfollowed := true, recurses := true, apart := false, narrowed := true }
def FnExactCountSafeUptoSaid : Prop := fnExactCountSafeUptoRow.holds Try.pinned (OpenSpec.upto fnExactCountSafeSpec)

/-- 'laws.FnExactRaftReserve', WHERE WHAT IT READS IS OF BULK AT MOST 1048576: true; the input reads as it did. -/
def fnExactRaftReserveUptoRow : OpenClaim := { program := "ytkpdddlecibbnaa", sum := "5316b775d6f7ec7477b435d4de781f7bc0fd9ef7305be22653d3f2649c50788c", func := "loop.example/g01159/laws.FnExactRaftReserve", spec := "fnExactRaftReserve", unfollowed := true, recurses := true, apart := false, narrowed := true }
def FnExactRaftReserveUptoSaid : Prop := fnExactRaftReserveUptoRow.holds Try.pinned (OpenSpec.upto fnExactRaftReserveSpec)

/-- 'laws.FnExactPairSteps', WHERE WHAT IT READS IS OF BULK AT MOST 1048576: true; the input reads as it did. -/
def fnExactPairStepsUptoRow : OpenClaim := { program := "ytkpdddlecibbnaa", sum := "5316b775d6f7ec7477b435d4de781f7bc0fd9ef7305be22653d3f2649c50788c", func := "loop.example/g01159/laws.FnExactPairSteps", spec := "fnExactPairSteps", unfollowed := true, recurses := true, apart := false, narrowed := true }
def FnExactPairStepsUptoSaid : Prop := fnExactPairStepsUptoRow.holds Try.pinned (OpenSpec.upto fnExactPairStepsSpec)

/-- 'laws.FnExactLeastOwn', WHERE WHAT IT READS IS OF BULK AT MOST 1048576: true; the input reads as it did. -/
def fnExactLeastOwnUptoRow : OpenClaim := { program := "ytkpdddlecibbnaa", sum := "5316b775d6f7ec7477b435d4de781f7bc0fd9ef7305be22653d3f2649c50788c", func := "loop.example/g01159/laws.FnExactLeastOwn", spec := "fnExactLeastOwn", unfollowed := true, recurses := true, apart := false, narrowed := true }
def FnExactLeastOwnUptoSaid : Prop := fnExactLeastOwnUptoRow.holds Try.pinned (OpenSpec.upto fnExactLeastOwnSpec)

/-- 'laws.FnExactRaftSide', WHERE WHAT IT READS IS OF BULK AT MOST 1048576: true; the input reads as it did. -/
def fnExactRaftSideUptoRow : OpenClaim := { program := "ytkpdddlecibbnaa", sum := "5316b775d6f7ec7477b435d4de781f7bc0fd9ef7305be22653d3f2649c50788c", func := "loop.example/g01159/laws.FnExactRaftSide", spec := "fnExactRaftSide", unfollowed := true, recurses := true, apart := false, narrowed := true }
def FnExactRaftSideUptoSaid : Prop := fnExactRaftSideUptoRow.holds Try.pinned (OpenSpec.upto fnExactRaftSideSpec)

/-- 'laws.FnExactIsSafeOrder', WHERE WHAT IT READS IS OF BULK AT MOST 1048576: true; the input reads as it did. -/
def fnExactIsSafeOrderUptoRow : OpenClaim := { program := "ytkpdddlecibbnaa", sum := "5316b775d6f7ec7477b435d4de781f7bc0fd9ef7305be22653d3f2649c50788c", func := "loop.example/g01159/laws.FnExactIsSafeOrder", spec := "fnExactIsSafeOrder", unfollowed := true, recurses := true, apart := false, narrowed := true }
def FnExactIsSafeOrderUptoSaid : Prop := fnExactIsSafeOrderUptoRow.holds Try.pinned (OpenSpec.upto fnExactIsSafeOrderSpec)

end Rows
end Go.Proofs.Ytkpdddlecibbnaa
