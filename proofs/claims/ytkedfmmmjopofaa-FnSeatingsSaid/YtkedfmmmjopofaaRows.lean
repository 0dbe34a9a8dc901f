/-
  No cell of these rows narrows 'for every input' (looked for: loops, veiled, ifaces, maps, wideKeys, modest, calm, conditions, laid).
  DERIVED. THE GIVEN ROWS OF THIS SEAT. 6 by the template 'for every input the law returns true; each argument reads behind the call as it read before'; 0 by the template 'total and deterministic' (their statements: YtkedfmmmjopofaaTotals.lean).
  GIVEN WITH THE SEED: the statements are not yours to turn. If you find one false, say at which input.
  Laid BY PROGRAM, IN A SANDBOX (cutbox-rows.mjs): the forced cells as the released guide's own fill.sh prints them over the translation 026146c940a1efff… (all of the seat's roots in one cut). By AI agents, Wed Nov 11 2026. No macro, syntax, notation, axiom, sorry.
-/
import Derived.Test.YtkedfmmmjopofaaChecked
import GoSem.Claim
import GoSem.ClaimJoined
import GoSem.ClaimMapViews
import Derived.JoinedTies
import Derived.KernelRfl
namespace Go.Proofs.Ytkedfmmmjopofaa
/- THE CELL 'sum', in the pinned program and in every row, IS THE sha256 OF THE DUMP (.gsa) THAT YtkedfmmmjopofaaProg.lean LOADS. Nothing in Lean hashes anything: it is a label: what it is worth is what the hold of that sum in a sandbox is worth. -/
noncomputable def Try.pinned : Pinned := { name := "ytkedfmmmjopofaa", sum := "026146c940a1effff9f86999baedb5fe45f0ed9ceb6f0c02ac90d883f42657ba", checked := Try.checked }
namespace Rows
def none {H : Type} : Left H := { results := [], args := [] }

/-- 'laws.FnExactCountTilts': WHATEVER THE INPUT: true; the input reads as it did. -/
def fnExactCountTiltsSpec : ChangeSpec := { name := "fnExactCountTilts", fn := fun _ => fun
  | [d1, d2, d3] => { results := [.lit (.bool true)], args := [d1, d2, d3] }
  | _ => none }
def fnExactCountTiltsRow : OpenClaim := { program := "ytkedfmmmjopofaa", sum := "026146c940a1effff9f86999baedb5fe45f0ed9ceb6f0c02ac90d883f42657ba", func := "loop.example/g01159/laws.FnExactCountTilts", spec := "fnExactCountTilts", unfollowed := true, recurses := true, apart := false }
def FnExactCountTiltsSaid : Prop := fnExactCountTiltsRow.holds Try.pinned (OpenSpec.ofChange fnExactCountTiltsSpec)

/-- ITS FALSE NEIGHBOUR: 'it returns false'. Refute it at one input. -/
def fnExactCountTiltsWrong : ChangeSpec := { name := "fnExactCountTilts", fn := fun _ => fun
  | [d1, d2, d3] => { results := [.lit (.bool false)], args := [d1, d2, d3] }
  | _ => none }
def FnExactCountTiltsWrongFalsely : Prop := fnExactCountTiltsRow.holds Try.pinned (OpenSpec.ofChange fnExactCountTiltsWrong)

/-- 'laws.FnTilts': WHATEVER THE INPUT: true; the input reads as it did. -/
def fnTiltsSpec : ChangeSpec := { name := "fnTilts", fn := fun _ => fun
  | [d] => { results := [.lit (.bool true)], args := [d] }
  | _ => none }
def fnTiltsRow : OpenClaim := { program := "ytkedfmmmjopofaa", sum := "026146c940a1effff9f86999baedb5fe45f0ed9ceb6f0c02ac90d883f42657ba", func := "loop.example/g01159/laws.FnTilts", spec := "fnTilts", unfollowed := true, recurses := true, apart := false }
def FnTiltsSaid : Prop := fnTiltsRow.holds Try.pinned (OpenSpec.ofChange fnTiltsSpec)

/-- ITS FALSE NEIGHBOUR: 'it returns false'. Refute it at one input. -/
def fnTiltsWrong : ChangeSpec := { name := "fnTilts", fn := fun _ => fun
  | [d] => { results := [.lit (.bool false)], args := [d] }
  | _ => none }
def FnTiltsWrongFalsely : Prop := fnTiltsRow.holds Try.pinned (OpenSpec.ofChange fnTiltsWrong)

/-- 'laws.FnExactCountEven': WHATEVER THE INPUT: true; the input reads as it did. -/
def fnExactCountEvenSpec : ChangeSpec := { name := "fnExactCountEven", fn := fun _ => fun
  | [d1, d2] => { results := [.lit (.bool true)], args := [d1, d2] }
  | _ => none }
def fnExactCountEvenRow : OpenClaim := { program := "ytkedfmmmjopofaa", sum := "026146c940a1effff9f86999baedb5fe45f0ed9ceb6f0c02ac90d883f42657ba", func := "loop.example/g01159/laws.FnExactCountEven", spec := "fnExactCountEven", unfollowed := true, recurses := true, apart := false }
def FnExactCountEvenSaid : Prop := fnExactCountEvenRow.holds Try.pinned (OpenSpec.ofChange fnExactCountEvenSpec)

/-- ITS FALSE NEIGHBOUR: 'it returns false'. Refute it at one input. -/
def fnExactCountEvenWrong : ChangeSpec := { name := "fnExactCountEven", fn := fun _ => fun
  | [d1, d2] => { results := [.lit (.bool false)], args := [d1, d2] }
  | _ => none }
def FnExactCountEvenWrongFalsely : Prop := fnExactCountEvenRow.holds Try.pinned (OpenSpec.ofChange fnExactCountEvenWrong)

/-- 'laws.FnExactLeastTilt': WHATEVER THE INPUT: true; the input reads as it did. -/
def fnExactLeastTiltSpec : ChangeSpec := { name := "fnExactLeastTilt", fn := fun _ => fun
  | [d1, d2] => { results := [.lit (.bool true)], args := [d1, d2] }
  | _ => none }
def fnExactLeastTiltRow : OpenClaim := { program := "ytkedfmmmjopofaa", sum := "026146c940a1effff9f86999baedb5fe45f0ed9ceb6f0c02ac90d883f42657ba", func := "loop.example/g01159/laws.FnExactLeastTilt", spec := "fnExactLeastTilt", unfollowed := true, recurses := true, apart := false }
def FnExactLeastTiltSaid : Prop := fnExactLeastTiltRow.holds Try.pinned (OpenSpec.ofChange fnExactLeastTiltSpec)

/-- ITS FALSE NEIGHBOUR: 'it returns false'. Refute it at one input. -/
def fnExactLeastTiltWrong : ChangeSpec := { name := "fnExactLeastTilt", fn := fun _ => fun
  | [d1, d2] => { results := [.lit (.bool false)], args := [d1, d2] }
  | _ => none }
def FnExactLeastTiltWrongFalsely : Prop := fnExactLeastTiltRow.holds Try.pinned (OpenSpec.ofChange fnExactLeastTiltWrong)

/-- 'laws.FnExactFirstEven': WHATEVER THE INPUT: true; the input reads as it did. -/
def fnExactFirstEvenSpec : ChangeSpec := { name := "fnExactFirstEven", fn := fun _ => fun
  | [d1, d2] => { results := [.lit (.bool true)], args := [d1, d2] }
  | _ => none }
def fnExactFirstEvenRow : OpenClaim := { program := "ytkedfmmmjopofaa", sum := "026146c940a1effff9f86999baedb5fe45f0ed9ceb6f0c02ac90d883f42657ba", func := "loop.example/g01159/laws.FnExactFirstEven", spec := "fnExactFirstEven", unfollowed := true, recurses := true, apart := false }
def FnExactFirstEvenSaid : Prop := fnExactFirstEvenRow.holds Try.pinned (OpenSpec.ofChange fnExactFirstEvenSpec)

/-- ITS FALSE NEIGHBOUR: 'it returns false'. Refute it at one input. -/
def fnExactFirstEvenWrong : ChangeSpec := { name := "fnExactFirstEven", fn := fun _ => fun
  | [d1, d2] => { results := [.lit (.bool false)], args := [d1, d2] }
  | _ => none }
def FnExactFirstEvenWrongFalsely : Prop := fnExactFirstEvenRow.holds Try.pinned (OpenSpec.ofChange fnExactFirstEvenWrong)

/-- 'laws.FnSeatings': WHATEVER THE INPUT: true; the input reads as it did. -/
def fnSeatingsSpec : ChangeSpec := { name := "fnSeatings", fn := fun _ => fun
  | [d] => { results := [.lit (.bool true)], args := [d] }
  | _ => none }
def fnSeatingsRow : OpenClaim := { program := "ytkedfmmmjopofaa", sum := "026146c940a1effff9f86999baedb5fe45f0ed9ceb6f0c02ac90d883f42657ba", func := "loop.example/g01159/laws.FnSeatings", spec := "fnSeatings", unfollowed := true, recurses := true, apart := false }
def FnSeatingsSaid : Prop := fnSeatingsRow.holds Try.pinned (OpenSpec.ofChange fnSeatingsSpec)

/-- ITS FALSE NEIGHBOUR: 'it returns false'. Refute it at one input. -/
def fnSeatingsWrong : ChangeSpec := { name := "fnSeatings", fn := fun _ => fun
  | [d] => { results := [.lit (.bool false)], args := [d] }
  | _ => none }
def FnSeatingsWrongFalsely : Prop := fnSeatingsRow.holds Try.pinned (OpenSpec.ofChange fnSeatingsWrong)

/- THE SECOND FORM. 'bulk': how many values and letters a reading holds, each counted each time it is reached (what is shared counts as often as it is met; a slice's spare places count too). A statement '..UptoSaid' is the law's where the arguments, and the package variables that the reading takes, are together of bulk at most 1048576: NARROWER than '..Said'. Prove '..Said' where nothing that the law and all that it calls make is longer than what came in: it says more and counts as full. Else prove '..UptoSaid'. A law counts once. -/
mutual
def uptoBulk {H : Type} : DataW H → Nat
  | .lit (.string bytes) => bytes.length + 1
  | .lit _ => 1
  | .nil => 1
  | .ptr d => uptoBulk d + 1
  | .slice elems spare => uptoBulkAll elems + uptoBulkAll spare + 1
  | .agg parts => uptoBulkAll parts + 1
  | .iface _ d => uptoBulk d + 1
  | .map entries => uptoBulkEntries entries + 1
  | .held _ => 1
def uptoBulkAll {H : Type} : List (DataW H) → Nat
  | [] => 0
  | d :: r => uptoBulk d + uptoBulkAll r
def uptoBulkEntries {H : Type} : List (Lit × DataW H) → Nat
  | [] => 0
  | x :: r => uptoBulkEntry x + uptoBulkEntries r
def uptoBulkEntry {H : Type} : Lit × DataW H → Nat
  | (.string bytes, d) => bytes.length + uptoBulk d + 1
  | (_, d) => uptoBulk d + 1
 end
def uptoSmall : (H : Type) → List (DataW H) → Bool := fun _ ds => decide (uptoBulkAll ds ≤ 1048576)
def OpenSpec.upto (s : _root_.Go.ChangeSpec) : _root_.Go.OpenSpec := { _root_.Go.OpenSpec.ofChange s with cond := some uptoSmall }

/-- 'laws.FnExactCountTilts', WHERE WHAT IT READS IS OF BULK AT MOST 1048576: true; the input reads as it did. -/
def fnExactCountTiltsUptoRow : OpenClaim := { program := "ytkedfmmmjopofaa", sum := "026146c940a1effff9f86999baedb5fe45f0ed9ceb6f0c02ac90d883f42657ba", func := "loop.example/g01159/laws.FnExactCountTilts", spec := "fnExactCountTilts", unfollowed := true, recurses := true, apart := false, narrowed := true }
def FnExactCountTiltsUptoSaid : Prop := fnExactCountTiltsUptoRow.holds Try.pinned (OpenSpec.upto fnExactCountTiltsSpec)

/-- 'laws.FnTilts', WHERE WHAT IT READS IS OF BULK AT MOST 1048576: true; the input reads as it did. -/
def fnTiltsUptoRow : OpenClaim := { program := "ytkedfmmmjopofaa", sum := "026146c940a1effff9f86999baedb5fe45f0ed9ceb6f0c02ac90d883f42657ba", func := "loop.example/g01159/laws.FnTilts", spec := "fnTilts", unfollowed := true, recurses := true, apart := false, narrowed := true }
def FnTiltsUptoSaid : Prop := fnTiltsUptoRow.holds Try.pinned (OpenSpec.upto fnTiltsSpec)

/-- 'laws.FnExactCountEven', WHERE WHAT IT READS IS OF BULK AT MOST 1048576: true; the input reads as it did. -/
def fnExactCountEvenUptoRow : OpenClaim := { program := "ytkedfmmmjopofaa", sum := "026146c940a1effff9f86999baedb5fe45f0ed9ceb6f0c02ac90d883f42657ba", func := "loop.example/g01159/laws.FnExactCountEven", spec := "fnExactCountEven", unfollowed := true, recurses := true, apart := false, narrowed := true }
def FnExactCountEvenUptoSaid : Prop := fnExactCountEvenUptoRow.holds Try.pinned (OpenSpec.upto fnExactCountEvenSpec)

/-- 'laws.FnExactLeastTilt', WHERE WHAT IT READS IS OF BULK AT MOST 1048576: true; the input reads as it did. -/
def fnExactLeastTiltUptoRow : OpenClaim := { program := "ytkedfmmmjopofaa", sum := "026146c940a1effff9f86999baedb5fe45f0ed9ceb6f0c02ac90d883f42657ba", func := "loop.example/g01159/laws.FnExactLeastTilt", spec := "fnExactLeastTilt", unfollowed := true, recurses := true, apart := false, narrowed := true }
def FnExactLeastTiltUptoSaid : Prop := fnExactLeastTiltUptoRow.holds Try.pinned (OpenSpec.upto fnExactLeastTiltSpec)

/-- 'laws.FnExactFirstEven', WHERE WHAT IT READS IS OF BULK AT MOST 1048576: true; the input reads as it did. -/
def fnExactFirstEvenUptoRow : OpenClaim := { program := "ytkedfmmmjopofaa", sum := "026146c940a1effff9f86999baedb5fe45f0ed9ceb6f0c02ac90d883f42657ba", func := "loop.example/g01159/laws.FnExactFirstEven", spec := "fnExactFirstEven", unfollowed := true, recurses := true, apart := false, narrowed := true }
def FnExactFirstEvenUptoSaid : Prop := fnExactFirstEvenUptoRow.holds Try.pinned (OpenSpec.upto fnExactFirstEvenSpec)

/-- 'laws.FnSeatings', WHERE WHAT IT READS IS OF BULK AT MOST 1048576: true; the input reads as it did. -/
def fnSeatingsUptoRow : OpenClaim := { program := "ytkedfmmmjopofaa", sum := "026146c940a1effff9f86999baedb5fe45f0ed9ceb6f0c02ac90d883f42657ba", func := "loop.example/g01159/laws.FnSeatings", spec := "fnSeatings", unfollowed := true, recurses := true, apart := false, narrowed := true }
def FnSeatingsUptoSaid : Prop := fnSeatingsUptoRow.holds Try.pinned (OpenSpec.upto fnSeatingsSpec)

end Rows
end Go.Proofs.Ytkedfmmmjopofaa
