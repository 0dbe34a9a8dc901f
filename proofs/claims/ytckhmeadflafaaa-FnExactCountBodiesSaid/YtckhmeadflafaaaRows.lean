/-
  No cell of these rows narrows 'for every input' (looked for: loops, veiled, ifaces, maps, wideKeys, modest, calm, conditions, laid).
  DERIVED. THE GIVEN ROWS OF THIS SEAT. 8 by the template 'for every input the law returns true; each argument reads behind the call as it read before'; 0 by the template 'total and deterministic' (their statements: YtckhmeadflafaaaTotals.lean).
  GIVEN WITH THE SEED: the statements are not yours to turn. If you find one false, say at which input.
  Laid BY PROGRAM, IN A SANDBOX (cutbox-rows.mjs): the forced cells as the released guide's own fill.sh prints them over the translation ca035d8487dd9506… (all of the seat's roots in one cut). By AI agents, Wed Nov 11 2026. No macro, syntax, notation, axiom, sorry.
-/
import Derived.Test.YtckhmeadflafaaaChecked
import GoSem.Claim
import GoSem.ClaimJoined
import GoSem.ClaimMapViews
import Derived.JoinedTies
import Derived.KernelRfl
namespace Go.Proofs.Ytckhmeadflafaaa
/- THE CELL 'sum', in the pinned program and in every row, IS THE sha256 OF THE DUMP (.gsa) THAT YtckhmeadflafaaaProg.lean LOADS. Nothing in Lean hashes anything: it is a label: what it is worth is what the hold of that sum in a sandbox is worth. -/
noncomputable def Try.pinned : Pinned := { name := "ytckhmeadflafaaa", sum := "ca035d8487dd9506582711b3ad626984287ac6243bc03809ae02353250dd336a", checked := Try.checked }
namespace Rows
def none {H : Type} : Left H := { results := [], args := [] }

/-- 'laws.FnExactLooseCells': WHATEVER THE INPUT: true; the input reads as it did. -/
def fnExactLooseCellsSpec : ChangeSpec := { name := "fnExactLooseCells", fn := fun _ => fun
  | [d] => { results := [.lit (.bool true)], args := [d] }
  | _ => none }
def fnExactLooseCellsRow : OpenClaim := { program := "ytckhmeadflafaaa", sum := "ca035d8487dd9506582711b3ad626984287ac6243bc03809ae02353250dd336a", func := "loop.example/g01159/laws.FnExactLooseCells", spec := "fnExactLooseCells", unfollowed := true, recurses := true, apart := false }
def FnExactLooseCellsSaid : Prop := fnExactLooseCellsRow.holds Try.pinned (OpenSpec.ofChange fnExactLooseCellsSpec)

/-- ITS FALSE NEIGHBOUR: 'it returns false'. Refute it at one input. -/
def fnExactLooseCellsWrong : ChangeSpec := { name := "fnExactLooseCells", fn := fun _ => fun
  | [d] => { results := [.lit (.bool false)], args := [d] }
  | _ => none }
def FnExactLooseCellsWrongFalsely : Prop := fnExactLooseCellsRow.holds Try.pinned (OpenSpec.ofChange fnExactLooseCellsWrong)

/-- 'laws.FnExactStackBodies': WHATEVER THE INPUT: true; the input reads as it did. -/
def fnExactStackBodiesSpec : ChangeSpec := { name := "fnExactStackBodies", fn := fun _ => fun
  | [d1, d2, d3] => { results := [.lit (.bool true)], args := [d1, d2, d3] }
  | _ => none }
def fnExactStackBodiesRow : OpenClaim := { program := "ytckhmeadflafaaa", sum := "ca035d8487dd9506582711b3ad626984287ac6243bc03809ae02353250dd336a", func := "loop.example/g01159/laws.FnExactStackBodies", spec := "fnExactStackBodies", unfollowed := true, recurses := true, apart := false }
def FnExactStackBodiesSaid : Prop := fnExactStackBodiesRow.holds Try.pinned (OpenSpec.ofChange fnExactStackBodiesSpec)

/-- ITS FALSE NEIGHBOUR: 'it returns false'. Refute it at one input. -/
def fnExactStackBodiesWrong : ChangeSpec := { name := "fnExactStackBodies", fn := fun _ => fun
  | [d1, d2, d3] => { results := [.lit (.bool false)], args := [d1, d2, d3] }
  | _ => none }
def FnExactStackBodiesWrongFalsely : Prop := fnExactStackBodiesRow.holds Try.pinned (OpenSpec.ofChange fnExactStackBodiesWrong)

/-- 'laws.FnExactTumbleBody': WHATEVER THE INPUT: true; the input reads as it did. -/
def fnExactTumbleBodySpec : ChangeSpec := { name := "fnExactTumbleBody", fn := fun _ => fun
  | [d] => { results := [.lit (.bool true)], args := [d] }
  | _ => none }
def fnExactTumbleBodyRow : OpenClaim := { program := "ytckhmeadflafaaa", sum := "ca035d8487dd9506582711b3ad626984287ac6243bc03809ae02353250dd336a", func := "loop.example/g01159/laws.FnExactTumbleBody", spec := "fnExactTumbleBody", unfollowed := true, recurses := true, apart := false }
def FnExactTumbleBodySaid : Prop := fnExactTumbleBodyRow.holds Try.pinned (OpenSpec.ofChange fnExactTumbleBodySpec)

/-- ITS FALSE NEIGHBOUR: 'it returns false'. Refute it at one input. -/
def fnExactTumbleBodyWrong : ChangeSpec := { name := "fnExactTumbleBody", fn := fun _ => fun
  | [d] => { results := [.lit (.bool false)], args := [d] }
  | _ => none }
def FnExactTumbleBodyWrongFalsely : Prop := fnExactTumbleBodyRow.holds Try.pinned (OpenSpec.ofChange fnExactTumbleBodyWrong)

/-- 'laws.FnExactCountBodies': WHATEVER THE INPUT: true; the input reads as it did. -/
def fnExactCountBodiesSpec : ChangeSpec := { name := "fnExactCountBodies", fn := fun _ => fun
  | [d] => { results := [.lit (.bool true)], args := [d] }
  | _ => none }
def fnExactCountBodiesRow : OpenClaim := { program := "ytckhmeadflafaaa", sum := "ca035d8487dd9506582711b3ad626984287ac6243bc03809ae02353250dd336a", func := "loop.example/g01159/laws.FnExactCountBodies", spec := "fnExactCountBodies", unfollowed := true, recurses := true, apart := false }
def FnExactCountBodiesSaid : Prop := fnExactCountBodiesRow.holds Try.pinned (OpenSpec.ofChange fnExactCountBodiesSpec)

/-- ITS FALSE NEIGHBOUR: 'it returns false'. Refute it at one input. -/
def fnExactCountBodiesWrong : ChangeSpec := { name := "fnExactCountBodies", fn := fun _ => fun
  | [d] => { results := [.lit (.bool false)], args := [d] }
  | _ => none }
def FnExactCountBodiesWrongFalsely : Prop := fnExactCountBodiesRow.holds Try.pinned (OpenSpec.ofChange fnExactCountBodiesWrong)

/-- 'laws.FnExactStandLoose': WHATEVER THE INPUT: true; the input reads as it did. -/
def fnExactStandLooseSpec : ChangeSpec := { name := "fnExactStandLoose", fn := fun _ => fun
  | [d] => { results := [.lit (.bool true)], args := [d] }
  | _ => none }
def fnExactStandLooseRow : OpenClaim := { program := "ytckhmeadflafaaa", sum := "ca035d8487dd9506582711b3ad626984287ac6243bc03809ae02353250dd336a", func := "loop.example/g01159/laws.FnExactStandLoose", spec := "fnExactStandLoose", unfollowed := true, recurses := true, apart := false }
def FnExactStandLooseSaid : Prop := fnExactStandLooseRow.holds Try.pinned (OpenSpec.ofChange fnExactStandLooseSpec)

/-- ITS FALSE NEIGHBOUR: 'it returns false'. Refute it at one input. -/
def fnExactStandLooseWrong : ChangeSpec := { name := "fnExactStandLoose", fn := fun _ => fun
  | [d] => { results := [.lit (.bool false)], args := [d] }
  | _ => none }
def FnExactStandLooseWrongFalsely : Prop := fnExactStandLooseRow.holds Try.pinned (OpenSpec.ofChange fnExactStandLooseWrong)

/-- 'laws.FnExactCellsToStand': WHATEVER THE INPUT: true; the input reads as it did. -/
def fnExactCellsToStandSpec : ChangeSpec := { name := "fnExactCellsToStand", fn := fun _ => fun
  | [d] => { results := [.lit (.bool true)], args := [d] }
  | _ => none }
def fnExactCellsToStandRow : OpenClaim := { program := "ytckhmeadflafaaa", sum := "ca035d8487dd9506582711b3ad626984287ac6243bc03809ae02353250dd336a", func := "loop.example/g01159/laws.FnExactCellsToStand", spec := "fnExactCellsToStand", unfollowed := true, recurses := true, apart := false }
def FnExactCellsToStandSaid : Prop := fnExactCellsToStandRow.holds Try.pinned (OpenSpec.ofChange fnExactCellsToStandSpec)

/-- ITS FALSE NEIGHBOUR: 'it returns false'. Refute it at one input. -/
def fnExactCellsToStandWrong : ChangeSpec := { name := "fnExactCellsToStand", fn := fun _ => fun
  | [d] => { results := [.lit (.bool false)], args := [d] }
  | _ => none }
def FnExactCellsToStandWrongFalsely : Prop := fnExactCellsToStandRow.holds Try.pinned (OpenSpec.ofChange fnExactCellsToStandWrong)

/-- 'laws.FnStacks': WHATEVER THE INPUT: true; the input reads as it did. -/
def fnStacksSpec : ChangeSpec := { name := "fnStacks", fn := fun _ => fun
  | [d] => { results := [.lit (.bool true)], args := [d] }
  | _ => none }
def fnStacksRow : OpenClaim := { program := "ytckhmeadflafaaa", sum := "ca035d8487dd9506582711b3ad626984287ac6243bc03809ae02353250dd336a", func := "loop.example/g01159/laws.FnStacks", spec := "fnStacks", unfollowed := true, recurses := true, apart := false }
def FnStacksSaid : Prop := fnStacksRow.holds Try.pinned (OpenSpec.ofChange fnStacksSpec)

/-- ITS FALSE NEIGHBOUR: 'it returns false'. Refute it at one input. -/
def fnStacksWrong : ChangeSpec := { name := "fnStacks", fn := fun _ => fun
  | [d] => { results := [.lit (.bool false)], args := [d] }
  | _ => none }
def FnStacksWrongFalsely : Prop := fnStacksRow.holds Try.pinned (OpenSpec.ofChange fnStacksWrong)

/-- 'laws.FnBodies': WHATEVER THE INPUT: true; the input reads as it did. -/
def fnBodiesSpec : ChangeSpec := { name := "fnBodies", fn := fun _ => fun
  | [d] => { results := [.lit (.bool true)], args := [d] }
  | _ => none }
def fnBodiesRow : OpenClaim := { program := "ytckhmeadflafaaa", sum := "ca035d8487dd9506582711b3ad626984287ac6243bc03809ae02353250dd336a", func := "loop.example/g01159/laws.FnBodies", spec := "fnBodies", unfollowed := true, recurses := true, apart := false }
def FnBodiesSaid : Prop := fnBodiesRow.holds Try.pinned (OpenSpec.ofChange fnBodiesSpec)

/-- ITS FALSE NEIGHBOUR: 'it returns false'. Refute it at one input. -/
def fnBodiesWrong : ChangeSpec := { name := "fnBodies", fn := fun _ => fun
  | [d] => { results := [.lit (.bool false)], args := [d] }
  | _ => none }
def FnBodiesWrongFalsely : Prop := fnBodiesRow.holds Try.pinned (OpenSpec.ofChange fnBodiesWrong)

/- THE SECOND FORM. 'bulk': how many values and letters a reading holds, each counted each time it is reached (what is shared counts as often as it is met; a slice's spare places count too). A statement '..UptoSaid' is the law's where the arguments, and the package variables that the reading takes, are together of bulk at most 1048576: NARROWER than '..Said'. Prove '..Said' where nothing that the law and all that it calls make is longer than what came in: it says more and counts as full. Else prove '..UptoSaid'. A law counts once. -/
mutual
def uptoBulk {H : Type} : DataW H → Nat
  | .lit (.string bytes) => bytes.length + 1
  | .lit _ => 1
  | .nil => 1
  | .ptr d => uptoBulk d + 1
  | .slice elems spare => uptoBulkAll elems + uptoBulkAll spare + 1
  | .agg parts => uptoBulkAll parts + 1
  | .iface _ d => uptoBulk d + 1
  | .map entries => uptoBulkEntries entries + 1
  | .held _ => 1
def uptoBulkAll {H : Type} : List (DataW H) → Nat
  | [] => 0
  | d :: r => uptoBulk d + uptoBulkAll r
def uptoBulkEntries {H : Type} : List (Lit × DataW H) → Nat
  | [] => 0
  | x :: r => uptoBulkEntry x + uptoBulkEntries r
def uptoBulkEntry {H : Type} : Lit × DataW H → Nat
  | (.string bytes, d) => bytes.length + uptoBulk d + 1
  | (_, d) => uptoBulk d + 1
 end
def uptoSmall : (H : Type) → List (DataW H) → Bool := fun _ ds => decide (uptoBulkAll ds ≤ 1048576)
def OpenSpec.upto (s : _root_.Go.ChangeSpec) : _root_.Go.OpenSpec := { _root_.Go.OpenSpec.ofChange s with cond := some uptoSmall }

/-- 'laws.FnExactLooseCells', WHERE WHAT IT READS IS OF BULK AT MOST 1048576: true; the input reads as it did. -/
def fnExactLooseCellsUptoRow : OpenClaim := { program := "ytckhmeadflafaaa", sum := "ca035d8487dd9506582711b3ad626984287ac6243bc03809ae02353250dd336a", func := "loop.example/g01159/laws.FnExactLooseCells", spec := "fnExactLooseCells", unfollowed := true, recurses := true, apart := false, narrowed := true }
def FnExactLooseCellsUptoSaid : Prop := fnExactLooseCellsUptoRow.holds Try.pinned (OpenSpec.upto fnExactLooseCellsSpec)

/-- 'laws.FnExactStackBodies', WHERE WHAT IT READS IS OF BULK AT MOST 1048576: true; the input reads as it did. -/
def fnExactStackBodiesUptoRow : OpenClaim := { program := "ytckhmeadflafaaa", sum := "ca035d8487dd9506582711b3ad626984287ac6243bc03809ae02353250dd336a", func := "loop.example/g01159/laws.FnExactStackBodies", spec := "fnExactStackBodies", unfollowed := true, recurses := true, apart := false, narrowed := true }
def FnExactStackBodiesUptoSaid : Prop := fnExactStackBodiesUptoRow.holds Try.pinned (OpenSpec.upto fnExactStackBodiesSpec)

/-- 'laws.FnExactTumbleBody', WHERE WHAT IT READS IS OF BULK AT MOST 1048576: true; the input reads as it did. -/
def fnExactTumbleBodyUptoRow : OpenClaim := { program := "ytckhmeadflafaaa", sum := "ca035d8487dd9506582711b3ad626984287ac6243bc03809ae02353250dd336a", func := "loop.example/g01159/laws.FnExactTumbleBody", spec := "fnExactTumbleBody", unfollowed := true, recurses := true, apart := false, narrowed := true }
def FnExactTumbleBodyUptoSaid : Prop := fnExactTumbleBodyUptoRow.holds Try.pinned (OpenSpec.upto fnExactTumbleBodySpec)

/-- 'laws.FnExactCountBodies', WHERE WHAT IT READS IS OF BULK AT MOST 1048576: true; the input reads as it did. -/
def fnExactCountBodiesUptoRow : OpenClaim := { program := "ytckhmeadflafaaa", sum := "ca035d8487dd9506582711b3ad626984287ac6243bc03809ae02353250dd336a", func := "loop.example/g01159/laws.FnExactCountBodies", spec := "fnExactCountBodies", unfollowed := true, recurses := true, apart := false, narrowed := true }
def FnExactCountBodiesUptoSaid : Prop := fnExactCountBodiesUptoRow.holds Try.pinned (OpenSpec.upto fnExactCountBodiesSpec)

/-- 'laws.FnExactStandLoose', WHERE WHAT IT READS IS OF BULK AT MOST 1048576: true; the input reads as it did. -/
def fnExactStandLooseUptoRow : OpenClaim := { program := "ytckhmeadflafaaa", sum := "ca035d8487dd9506582711b3ad626984287ac6243bc03809ae02353250dd336a", func := "loop.example/g01159/laws.FnExactStandLoose", spec := "fnExactStandLoose", unfollowed := true, recurses := true, apart := false, narrowed := true }
def FnExactStandLooseUptoSaid : Prop := fnExactStandLooseUptoRow.holds Try.pinned (OpenSpec.upto fnExactStandLooseSpec)

/-- 'laws.FnExactCellsToStand', WHERE WHAT IT READS IS OF BULK AT MOST 1048576: true; the input reads as it did. -/
def fnExactCellsToStandUptoRow : OpenClaim := { program := "ytckhmeadflafaaa", sum := "ca035d8487dd9506582711b3ad626984287ac6243bc03809ae02353250dd336a", func := "loop.example/g01159/laws.FnExactCellsToStand", spec := "fnExactCellsToStand", unfollowed := true, recurses := true, apart := false, narrowed := true }
def FnExactCellsToStandUptoSaid : Prop := fnExactCellsToStandUptoRow.holds Try.pinned (OpenSpec.upto fnExactCellsToStandSpec)

/-- 'laws.FnStacks', WHERE WHAT IT READS IS OF BULK AT MOST 1048576: true; the input reads as it did. -/
def fnStacksUptoRow : OpenClaim := { program := "ytckhmeadflafaaa", sum := "ca035d8487dd9506582711b3ad626984287ac6243bc03809ae02353250dd336a", func := "loop.example/g01159/laws.FnStacks", spec := "fnStacks", unfollowed := true, recurses := true, apart := false, narrowed := true }
def FnStacksUptoSaid : Prop := fnStacksUptoRow.holds Try.pinned (OpenSpec.upto fnStacksSpec)

/-- 'laws.FnBodies', WHERE WHAT IT READS IS OF BULK AT MOST 1048576: true; the input reads as it did. -/
def fnBodiesUptoRow : OpenClaim := { program := "ytckhmeadflafaaa", sum := "ca035d8487dd9506582711b3ad626984287ac6243bc03809ae02353250dd336a", func := "loop.example/g01159/laws.FnBodies", spec := "fnBodies", unfollowed := true, recurses := true, apart := false, narrowed := true }
def FnBodiesUptoSaid : Prop := fnBodiesUptoRow.holds Try.pinned (OpenSpec.upto fnBodiesSpec)

end Rows
end Go.Proofs.Ytckhmeadflafaaa
