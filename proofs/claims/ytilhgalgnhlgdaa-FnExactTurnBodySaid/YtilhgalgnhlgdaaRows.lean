/-
  No cell of these rows narrows 'for every input' (looked for: loops, veiled, ifaces, maps, wideKeys, modest, calm, conditions, laid).
  DERIVED. THE GIVEN ROWS OF THIS SEAT. 7 by the template 'for every input the law returns true; each argument reads behind the call as it read before'; 0 by the template 'total and deterministic' (their statements: YtilhgalgnhlgdaaTotals.lean).
  GIVEN WITH THE SEED: the statements are not yours to turn. If you find one false, say at which input.
  Laid BY PROGRAM, IN A SANDBOX (cutbox-rows.mjs): the forced cells as the released guide's own fill.sh prints them over the translation d48718346e21c6eb… (all of the seat's roots in one cut). By AI agents, Wed Nov 11 2026. No macro, syntax, notation, axiom, sorry.
-/
import Derived.Test.YtilhgalgnhlgdaaChecked
import GoSem.Claim
import GoSem.ClaimJoined
import GoSem.ClaimMapViews
import Derived.JoinedTies
import Derived.KernelRfl
namespace Go.Proofs.Ytilhgalgnhlgdaa
/- THE CELL 'sum', in the pinned program and in every row, IS THE sha256 OF THE DUMP (.gsa) THAT YtilhgalgnhlgdaaProg.lean LOADS. Nothing in Lean hashes anything: it is a label: what it is worth is what the hold of that sum in a sandbox is worth. -/
noncomputable def Try.pinned : Pinned := { name := "ytilhgalgnhlgdaa", sum := "d48718346e21c6ebbd68baf2ee253260eee85c3c333262812e4e2d779d61a913", checked := Try.checked }
namespace Rows
def none {H : Type} : Left H := { results := [], args := [] }

/-- 'laws.FnExactIsBody': WHATEVER THE INPUT: true; the input reads as it did. -/
def fnExactIsBodySpec : ChangeSpec := { name := "fnExactIsBody", fn := fun _ => fun
  | [d] => { results := [.lit (.bool true)], args := [d] }
  | _ => none }
def fnExactIsBodyRow : OpenClaim := { program := "ytilhgalgnhlgdaa", sum := "d48718346e21c6ebbd68baf2ee253260eee85c3c333262812e4e2d779d61a913", func := "loop.example/g01159/laws.FnExactIsBody", spec := "fnExactIsBody", apart := false }
def FnExactIsBodySaid : Prop := fnExactIsBodyRow.holds Try.pinned (OpenSpec.ofChange fnExactIsBodySpec)

/-- ITS FALSE NEIGHBOUR: 'it returns false'. Refute it at one input. -/
def fnExactIsBodyWrong : ChangeSpec := { name := "fnExactIsBody", fn := fun _ => fun
  | [d] => { results := [.lit (.bool false)], args := [d] }
  | _ => none }
def FnExactIsBodyWrongFalsely : Prop := fnExactIsBodyRow.holds Try.pinned (OpenSpec.ofChange fnExactIsBodyWrong)

/-- 'laws.FnExactGroundOf': WHATEVER THE INPUT: true; the input reads as it did. -/
def fnExactGroundOfSpec : ChangeSpec := { name := "fnExactGroundOf", fn := fun _ => fun
  | [d] => { results := [.lit (.bool true)], args := [d] }
  | _ => none }
def fnExactGroundOfRow : OpenClaim := { program := "ytilhgalgnhlgdaa", sum := "d48718346e21c6ebbd68baf2ee253260eee85c3c333262812e4e2d779d61a913", func := "loop.example/g01159/laws.FnExactGroundOf", spec := "fnExactGroundOf", apart := false }
def FnExactGroundOfSaid : Prop := fnExactGroundOfRow.holds Try.pinned (OpenSpec.ofChange fnExactGroundOfSpec)

/-- ITS FALSE NEIGHBOUR: 'it returns false'. Refute it at one input. -/
def fnExactGroundOfWrong : ChangeSpec := { name := "fnExactGroundOf", fn := fun _ => fun
  | [d] => { results := [.lit (.bool false)], args := [d] }
  | _ => none }
def FnExactGroundOfWrongFalsely : Prop := fnExactGroundOfRow.holds Try.pinned (OpenSpec.ofChange fnExactGroundOfWrong)

/-- 'laws.FnExactBodyCentre': WHATEVER THE INPUT: true; the input reads as it did. -/
def fnExactBodyCentreSpec : ChangeSpec := { name := "fnExactBodyCentre", fn := fun _ => fun
  | [d] => { results := [.lit (.bool true)], args := [d] }
  | _ => none }
def fnExactBodyCentreRow : OpenClaim := { program := "ytilhgalgnhlgdaa", sum := "d48718346e21c6ebbd68baf2ee253260eee85c3c333262812e4e2d779d61a913", func := "loop.example/g01159/laws.FnExactBodyCentre", spec := "fnExactBodyCentre", apart := false }
def FnExactBodyCentreSaid : Prop := fnExactBodyCentreRow.holds Try.pinned (OpenSpec.ofChange fnExactBodyCentreSpec)

/-- ITS FALSE NEIGHBOUR: 'it returns false'. Refute it at one input. -/
def fnExactBodyCentreWrong : ChangeSpec := { name := "fnExactBodyCentre", fn := fun _ => fun
  | [d] => { results := [.lit (.bool false)], args := [d] }
  | _ => none }
def FnExactBodyCentreWrongFalsely : Prop := fnExactBodyCentreRow.holds Try.pinned (OpenSpec.ofChange fnExactBodyCentreWrong)

/-- 'laws.FnExactBodySide': WHATEVER THE INPUT: true; the input reads as it did. -/
def fnExactBodySideSpec : ChangeSpec := { name := "fnExactBodySide", fn := fun _ => fun
  | [d] => { results := [.lit (.bool true)], args := [d] }
  | _ => none }
def fnExactBodySideRow : OpenClaim := { program := "ytilhgalgnhlgdaa", sum := "d48718346e21c6ebbd68baf2ee253260eee85c3c333262812e4e2d779d61a913", func := "loop.example/g01159/laws.FnExactBodySide", spec := "fnExactBodySide", apart := false }
def FnExactBodySideSaid : Prop := fnExactBodySideRow.holds Try.pinned (OpenSpec.ofChange fnExactBodySideSpec)

/-- ITS FALSE NEIGHBOUR: 'it returns false'. Refute it at one input. -/
def fnExactBodySideWrong : ChangeSpec := { name := "fnExactBodySide", fn := fun _ => fun
  | [d] => { results := [.lit (.bool false)], args := [d] }
  | _ => none }
def FnExactBodySideWrongFalsely : Prop := fnExactBodySideRow.holds Try.pinned (OpenSpec.ofChange fnExactBodySideWrong)

/-- 'laws.FnExactMirrorBody': WHATEVER THE INPUT: true; the input reads as it did. -/
def fnExactMirrorBodySpec : ChangeSpec := { name := "fnExactMirrorBody", fn := fun _ => fun
  | [d] => { results := [.lit (.bool true)], args := [d] }
  | _ => none }
def fnExactMirrorBodyRow : OpenClaim := { program := "ytilhgalgnhlgdaa", sum := "d48718346e21c6ebbd68baf2ee253260eee85c3c333262812e4e2d779d61a913", func := "loop.example/g01159/laws.FnExactMirrorBody", spec := "fnExactMirrorBody", unfollowed := true, recurses := true, apart := false }
def FnExactMirrorBodySaid : Prop := fnExactMirrorBodyRow.holds Try.pinned (OpenSpec.ofChange fnExactMirrorBodySpec)

/-- ITS FALSE NEIGHBOUR: 'it returns false'. Refute it at one input. -/
def fnExactMirrorBodyWrong : ChangeSpec := { name := "fnExactMirrorBody", fn := fun _ => fun
  | [d] => { results := [.lit (.bool false)], args := [d] }
  | _ => none }
def FnExactMirrorBodyWrongFalsely : Prop := fnExactMirrorBodyRow.holds Try.pinned (OpenSpec.ofChange fnExactMirrorBodyWrong)

/-- 'laws.FnExactTurnBody': WHATEVER THE INPUT: true; the input reads as it did. -/
def fnExactTurnBodySpec : ChangeSpec := { name := "fnExactTurnBody", fn := fun _ => fun
  | [d1, d2] => { results := [.lit (.bool true)], args := [d1, d2] }
  | _ => none }
def fnExactTurnBodyRow : OpenClaim := { program := "ytilhgalgnhlgdaa", sum := "d48718346e21c6ebbd68baf2ee253260eee85c3c333262812e4e2d779d61a913", func := "loop.example/g01159/laws.FnExactTurnBody", spec := "fnExactTurnBody", unfollowed := true, recurses := true, apart := false }
def FnExactTurnBodySaid : Prop := fnExactTurnBodyRow.holds Try.pinned (OpenSpec.ofChange fnExactTurnBodySpec)

/-- ITS FALSE NEIGHBOUR: 'it returns false'. Refute it at one input. -/
def fnExactTurnBodyWrong : ChangeSpec := { name := "fnExactTurnBody", fn := fun _ => fun
  | [d1, d2] => { results := [.lit (.bool false)], args := [d1, d2] }
  | _ => none }
def FnExactTurnBodyWrongFalsely : Prop := fnExactTurnBodyRow.holds Try.pinned (OpenSpec.ofChange fnExactTurnBodyWrong)

/-- 'laws.FnExactPutDown': WHATEVER THE INPUT: true; the input reads as it did. -/
def fnExactPutDownSpec : ChangeSpec := { name := "fnExactPutDown", fn := fun _ => fun
  | [d] => { results := [.lit (.bool true)], args := [d] }
  | _ => none }
def fnExactPutDownRow : OpenClaim := { program := "ytilhgalgnhlgdaa", sum := "d48718346e21c6ebbd68baf2ee253260eee85c3c333262812e4e2d779d61a913", func := "loop.example/g01159/laws.FnExactPutDown", spec := "fnExactPutDown", unfollowed := true, recurses := true, apart := false }
def FnExactPutDownSaid : Prop := fnExactPutDownRow.holds Try.pinned (OpenSpec.ofChange fnExactPutDownSpec)

/-- ITS FALSE NEIGHBOUR: 'it returns false'. Refute it at one input. -/
def fnExactPutDownWrong : ChangeSpec := { name := "fnExactPutDown", fn := fun _ => fun
  | [d] => { results := [.lit (.bool false)], args := [d] }
  | _ => none }
def FnExactPutDownWrongFalsely : Prop := fnExactPutDownRow.holds Try.pinned (OpenSpec.ofChange fnExactPutDownWrong)

/- THE SECOND FORM. 'bulk': how many values and letters a reading holds, each counted each time it is reached (what is shared counts as often as it is met; a slice's spare places count too). A statement '..UptoSaid' is the law's where the arguments, and the package variables that the reading takes, are together of bulk at most 1048576: NARROWER than '..Said'. Prove '..Said' where nothing that the law and all that it calls make is longer than what came in: it says more and counts as full. Else prove '..UptoSaid'. A law counts once. -/
mutual
def uptoBulk {H : Type} : DataW H → Nat
  | .lit (.string bytes) => bytes.length + 1
  | .lit _ => 1
  | .nil => 1
  | .ptr d => uptoBulk d + 1
  | .slice elems spare => uptoBulkAll elems + uptoBulkAll spare + 1
  | .agg parts => uptoBulkAll parts + 1
  | .iface _ d => uptoBulk d + 1
  | .map entries => uptoBulkEntries entries + 1
  | .held _ => 1
def uptoBulkAll {H : Type} : List (DataW H) → Nat
  | [] => 0
  | d :: r => uptoBulk d + uptoBulkAll r
def uptoBulkEntries {H : Type} : List (Lit × DataW H) → Nat
  | [] => 0
  | x :: r => uptoBulkEntry x + uptoBulkEntries r
def uptoBulkEntry {H : Type} : Lit × DataW H → Nat
  | (.string bytes, d) => bytes.length + uptoBulk d + 1
  | (_, d) => uptoBulk d + 1
 end
def uptoSmall : (H : Type) → List (DataW H) → Bool := fun _ ds => decide (uptoBulkAll ds ≤ 1048576)
def OpenSpec.upto (s : _root_.Go.ChangeSpec) : _root_.Go.OpenSpec := { _root_.Go.OpenSpec.ofChange s with cond := some uptoSmall }

/-- 'laws.FnExactIsBody', WHERE WHAT IT READS IS OF BULK AT MOST 1048576: true; the input reads as it did. -/
def fnExactIsBodyUptoRow : OpenClaim := { program := "ytilhgalgnhlgdaa", sum := "d48718346e21c6ebbd68baf2ee253260eee85c3c333262812e4e2d779d61a913", func := "loop.example/g01159/laws.FnExactIsBody", spec := "fnExactIsBody", apart := false, narrowed := true }
def FnExactIsBodyUptoSaid : Prop := fnExactIsBodyUptoRow.holds Try.pinned (OpenSpec.upto fnExactIsBodySpec)

/-- 'laws.FnExactGroundOf', WHERE WHAT IT READS IS OF BULK AT MOST 1048576: true; the input reads as it did. -/
def fnExactGroundOfUptoRow : OpenClaim := { program := "ytilhgalgnhlgdaa", sum := "d48718346e21c6ebbd68baf2ee253260eee85c3c333262812e4e2d779d61a913", func := "loop.example/g01159/laws.FnExactGroundOf", spec := "fnExactGroundOf", apart := false, narrowed := true }
def FnExactGroundOfUptoSaid : Prop := fnExactGroundOfUptoRow.holds Try.pinned (OpenSpec.upto fnExactGroundOfSpec)

/-- 'laws.FnExactBodyCentre', WHERE WHAT IT READS IS OF BULK AT MOST 1048576: true; the input reads as it did. -/
def fnExactBodyCentreUptoRow : OpenClaim := { program := "ytilhgalgnhlgdaa", sum := "d48718346e21c6ebbd68baf2ee253260eee85c3c333262812e4e2d779d61a913", func := "loop.example/g01159/laws.FnExactBodyCentre", spec := "fnExactBodyCentre", apart := false, narrowed := true }
def FnExactBodyCentreUptoSaid : Prop := fnExactBodyCentreUptoRow.holds Try.pinned (OpenSpec.upto fnExactBodyCentreSpec)

/-- 'laws.FnExactBodySide', WHERE WHAT IT READS IS OF BULK AT MOST 1048576: true; the input reads as it did. -/
def fnExactBodySideUptoRow : OpenClaim := { program := "ytilhgalgnhlgdaa", sum := "d48718346e21c6ebbd68baf2ee253260eee85c3c333262812e4e2d779d61a913", func := "loop.example/g01159/laws.FnExactBodySide", spec := "fnExactBodySide", apart := false, narrowed := true }
def FnExactBodySideUptoSaid : Prop := fnExactBodySideUptoRow.holds Try.pinned (OpenSpec.upto fnExactBodySideSpec)

/-- 'laws.FnExactMirrorBody', WHERE WHAT IT READS IS OF BULK AT MOST 1048576: true; the input reads as it did. -/
def fnExactMirrorBodyUptoRow : OpenClaim := { program := "ytilhgalgnhlgdaa", sum := "d48718346e21c6ebbd68baf2ee253260eee85c3c333262812e4e2d779d61a913", func := "loop.example/g01159/laws.FnExactMirrorBody", spec := "fnExactMirrorBody", unfollowed := true, recurses := true, apart := false, narrowed := true }
def FnExactMirrorBodyUptoSaid : Prop := fnExactMirrorBodyUptoRow.holds Try.pinned (OpenSpec.upto fnExactMirrorBodySpec)

/-- 'laws.FnExactTurnBody', WHERE WHAT IT READS IS OF BULK AT MOST 1048576: true; the input reads as it did. -/
def fnExactTurnBodyUptoRow : OpenClaim := { program := "ytilhgalgnhlgdaa", sum := "d48718346e21c6ebbd68baf2ee253260eee85c3c333262812e4e2d779d61a913", func := "loop.example/g01159/laws.FnExactTurnBody", spec := "fnExactTurnBody", unfollowed := true, recurses := true, apart := false, narrowed := true }
def FnExactTurnBodyUptoSaid : Prop := fnExactTurnBodyUptoRow.holds Try.pinned (OpenSpec.upto fnExactTurnBodySpec)

/-- 'laws.FnExactPutDown', WHERE WHAT IT READS IS OF BULK AT MOST 1048576: true; the input reads as it did. -/
def fnExactPutDownUptoRow : OpenClaim := { program := "ytilhgalgnhlgdaa", sum := "d48718346e21c6ebbd68baf2ee253260eee85c3c333262812e4e2d779d61a913", func := "loop.example/g01159/laws.FnExactPutDown", spec := "fnExactPutDown", unfollowed := true, recurses := true, apart := false, narrowed := true }
def FnExactPutDownUptoSaid : Prop := fnExactPutDownUptoRow.holds Try.pinned (OpenSpec.upto fnExactPutDownSpec)

end Rows
end Go.Proofs.Ytilhgalgnhlgdaa
