/-
  No cell of these rows narrows 'for every input' (looked for: loops, veiled, ifaces, maps, wideKeys, modest, calm, conditions, laid).
  DERIVED. THE GIVEN ROWS OF THIS SEAT. 5 by the template 'for every input the law returns true; each argument reads behind the call as it read before'; 0 by the template 'total and deterministic' (their statements: YtdbccenmfdjkjaaTotals.lean).
  GIVEN WITH THE SEED: the statements are not yours to turn. If you find one false, say at which input.
  Laid BY PROGRAM, IN A SANDBOX (cutbox-rows.mjs): the forced cells as the released guide's own fill.sh prints them over the translation 8c8dfd03da88c547… (all of the seat's roots in one cut). By AI agents, Wed Nov 11 2026. No macro, syntax, notation, axiom, sorry.
-/
import Derived.Test.YtdbccenmfdjkjaaChecked
import GoSem.Claim
import GoSem.ClaimJoined
import GoSem.ClaimMapViews
import Derived.JoinedTies
import Derived.KernelRfl
namespace Go.Proofs.Ytdbccenmfdjkjaa
/- THE CELL 'sum', in the pinned program and in every row, IS THE sha256 OF THE DUMP (.gsa) THAT YtdbccenmfdjkjaaProg.lean LOADS. Nothing in Lean hashes anything: it is a label: what it is worth is what the hold of that sum in a sandbox is worth. -/
noncomputable def Try.pinned : Pinned := { name := "ytdbccenmfdjkjaa", sum := "8c8dfd03da88c547e9c175172dc000f5d91a92d6de15bbb376350e938da18c36", checked := Try.checked }
namespace Rows
def none {H : Type} : Left H := { results := [], args := [] }

/-- 'laws.FnGroups': WHATEVER THE INPUT: true; the input reads as it did. -/
def fnGroupsSpec : ChangeSpec := { name := "fnGroups", fn := fun _ => fun
  | [d] => { results := [.lit (.bool true)], args := [d] }
  | _ => none }
def fnGroupsRow : OpenClaim := { program := "ytdbccenmfdjkjaa", sum := "8c8dfd03da88c547e9c175172dc000f5d91a92d6de15bbb376350e938da18c36", func := "loop.example/g01159/laws.FnGroups", spec := "fnGroups", unfollowed := true, recurses := true, apart := false }
def FnGroupsSaid : Prop := fnGroupsRow.holds Try.pinned (OpenSpec.ofChange fnGroupsSpec)

/-- ITS FALSE NEIGHBOUR: 'it returns false'. Refute it at one input. -/
def fnGroupsWrong : ChangeSpec := { name := "fnGroups", fn := fun _ => fun
  | [d] => { results := [.lit (.bool false)], args := [d] }
  | _ => none }
def FnGroupsWrongFalsely : Prop := fnGroupsRow.holds Try.pinned (OpenSpec.ofChange fnGroupsWrong)

/-- 'laws.FnMends': WHATEVER THE INPUT: true; the input reads as it did. -/
def fnMendsSpec : ChangeSpec := { name := "fnMends", fn := fun _ => fun
  | [d] => { results := [.lit (.bool true)], args := [d] }
  | _ => none }
def fnMendsRow : OpenClaim := { program := "ytdbccenmfdjkjaa", sum := "8c8dfd03da88c547e9c175172dc000f5d91a92d6de15bbb376350e938da18c36", func := "loop.example/g01159/laws.FnMends", spec := "fnMends", unfollowed := true, recurses := true, apart := false }
def FnMendsSaid : Prop := fnMendsRow.holds Try.pinned (OpenSpec.ofChange fnMendsSpec)

/-- ITS FALSE NEIGHBOUR: 'it returns false'. Refute it at one input. -/
def fnMendsWrong : ChangeSpec := { name := "fnMends", fn := fun _ => fun
  | [d] => { results := [.lit (.bool false)], args := [d] }
  | _ => none }
def FnMendsWrongFalsely : Prop := fnMendsRow.holds Try.pinned (OpenSpec.ofChange fnMendsWrong)

/-- 'laws.FnExactCountZero': WHATEVER THE INPUT: true; the input reads as it did. -/
def fnExactCountZeroSpec : ChangeSpec := { name := "fnExactCountZero", fn := fun _ => fun
  | [d1, d2] => { results := [.lit (.bool true)], args := [d1, d2] }
  | _ => none }
def fnExactCountZeroRow : OpenClaim := { program := "ytdbccenmfdjkjaa", sum := "8c8dfd03da88c547e9c175172dc000f5d91a92d6de15bbb376350e938da18c36", func := "loop.example/g01159/laws.FnExactCountZero", spec := "fnExactCountZero", unfollowed := true, recurses := true, apart := false }
def FnExactCountZeroSaid : Prop := fnExactCountZeroRow.holds Try.pinned (OpenSpec.ofChange fnExactCountZeroSpec)

/-- ITS FALSE NEIGHBOUR: 'it returns false'. Refute it at one input. -/
def fnExactCountZeroWrong : ChangeSpec := { name := "fnExactCountZero", fn := fun _ => fun
  | [d1, d2] => { results := [.lit (.bool false)], args := [d1, d2] }
  | _ => none }
def FnExactCountZeroWrongFalsely : Prop := fnExactCountZeroRow.holds Try.pinned (OpenSpec.ofChange fnExactCountZeroWrong)

/-- 'laws.FnExactZeroGroups': WHATEVER THE INPUT: true; the input reads as it did. -/
def fnExactZeroGroupsSpec : ChangeSpec := { name := "fnExactZeroGroups", fn := fun _ => fun
  | [d1, d2] => { results := [.lit (.bool true)], args := [d1, d2] }
  | _ => none }
def fnExactZeroGroupsRow : OpenClaim := { program := "ytdbccenmfdjkjaa", sum := "8c8dfd03da88c547e9c175172dc000f5d91a92d6de15bbb376350e938da18c36", func := "loop.example/g01159/laws.FnExactZeroGroups", spec := "fnExactZeroGroups", unfollowed := true, recurses := true, apart := false }
def FnExactZeroGroupsSaid : Prop := fnExactZeroGroupsRow.holds Try.pinned (OpenSpec.ofChange fnExactZeroGroupsSpec)

/-- ITS FALSE NEIGHBOUR: 'it returns false'. Refute it at one input. -/
def fnExactZeroGroupsWrong : ChangeSpec := { name := "fnExactZeroGroups", fn := fun _ => fun
  | [d1, d2] => { results := [.lit (.bool false)], args := [d1, d2] }
  | _ => none }
def FnExactZeroGroupsWrongFalsely : Prop := fnExactZeroGroupsRow.holds Try.pinned (OpenSpec.ofChange fnExactZeroGroupsWrong)

/-- 'laws.FnExactSplitAlike': WHATEVER THE INPUT: true; the input reads as it did. -/
def fnExactSplitAlikeSpec : ChangeSpec := { name := "fnExactSplitAlike", fn := fun _ => fun
  | [d] => { results := [.lit (.bool true)], args := [d] }
  | _ => none }
def fnExactSplitAlikeRow : OpenClaim := { program := "ytdbccenmfdjkjaa", sum := "8c8dfd03da88c547e9c175172dc000f5d91a92d6de15bbb376350e938da18c36", func := "loop.example/g01159/laws.FnExactSplitAlike", spec := "fnExactSplitAlike", unfollowed := true, recurses := true, apart := false }
def FnExactSplitAlikeSaid : Prop := fnExactSplitAlikeRow.holds Try.pinned (OpenSpec.ofChange fnExactSplitAlikeSpec)

/-- ITS FALSE NEIGHBOUR: 'it returns false'. Refute it at one input. -/
def fnExactSplitAlikeWrong : ChangeSpec := { name := "fnExactSplitAlike", fn := fun _ => fun
  | [d] => { results := [.lit (.bool false)], args := [d] }
  | _ => none }
def FnExactSplitAlikeWrongFalsely : Prop := fnExactSplitAlikeRow.holds Try.pinned (OpenSpec.ofChange fnExactSplitAlikeWrong)

/- THE SECOND FORM. 'bulk': how many values and letters a reading holds, each counted each time it is reached (what is shared counts as often as it is met; a slice's spare places count too). A statement '..UptoSaid' is the law's where the arguments, and the package variables that the reading takes, are together of bulk at most 1048576: NARROWER than '..Said'. Prove '..Said' where nothing that the law and all that it calls make is longer than what came in: it says more and counts as full. Else prove '..UptoSaid'. A law counts once. -/
mutual
def uptoBulk {H : Type} : DataW H → Nat
  | .lit (.string bytes) => bytes.length + 1
  | .lit _ => 1
  | .nil => 1
  | .ptr d => uptoBulk d + 1
  | .slice elems spare => uptoBulkAll elems + uptoBulkAll spare + 1
  | .agg parts => uptoBulkAll parts + 1
  | .iface _ d => uptoBulk d + 1
  | .map entries => uptoBulkEntries entries + 1
  | .held _ => 1
def uptoBulkAll {H : Type} : List (DataW H) → Nat
  | [] => 0
  | d :: r => uptoBulk d + uptoBulkAll r
def uptoBulkEntries {H : Type} : List (Lit × DataW H) → Nat
  | [] => 0
  | x :: r => uptoBulkEntry x + uptoBulkEntries r
def uptoBulkEntry {H : Type} : Lit × DataW H → Nat
  | (.string bytes, d) => bytes.length + uptoBulk d + 1
  | (_, d) => uptoBulk d + 1
 end
def uptoSmall : (H : Type) → List (DataW H) → Bool := fun _ ds => decide (uptoBulkAll ds ≤ 1048576)
def OpenSpec.upto (s : _root_.Go.ChangeSpec) : _root_.Go.OpenSpec := { _root_.Go.OpenSpec.ofChange s with cond := some uptoSmall }

/-- 'laws.FnGroups', WHERE WHAT IT READS IS OF BULK AT MOST 1048576: true; the input reads as it did. -/
def fnGroupsUptoRow : OpenClaim := { program := "ytdbccenmfdjkjaa", sum := "8c8dfd03da88c547e9c175172dc000f5d91a92d6de15bbb376350e938da18c36", func := "loop.example/g01159/laws.FnGroups", spec := "fnGroups", unfollowed := true, recurses := true, apart := false, narrowed := true }
def FnGroupsUptoSaid : Prop := fnGroupsUptoRow.holds Try.pinned (OpenSpec.upto fnGroupsSpec)

/-- 'laws.FnMends', WHERE WHAT IT READS IS OF BULK AT MOST 1048576: true; the input reads as it did. -/
def fnMendsUptoRow : OpenClaim := { program := "ytdbccenmfdjkjaa", sum := "8c8dfd03da88c547e9c175172dc000f5d91a92d6de15bbb376350e938da18c36", func := "loop.example/g01159/laws.FnMends", spec := "fnMends", unfollowed := true, recurses := true, apart := false, narrowed := true }
def FnMendsUptoSaid : Prop := fnMendsUptoRow.holds Try.pinned (OpenSpec.upto fnMendsSpec)

/-- 'laws.FnExactCountZero', WHERE WHAT IT READS IS OF BULK AT MOST 1048576: true; the input reads as it did. -/
def fnExactCountZeroUptoRow : OpenClaim := { program := "ytdbccenmfdjkjaa", sum := "8c8dfd03da88c547e9c175172dc000f5d91a92d6de15bbb376350e938da18c36", func := "loop.example/g01159/laws.FnExactCountZero", spec := "fnExactCountZero", unfollowed := true, recurses := true, apart := false, narrowed := true }
def FnExactCountZeroUptoSaid : Prop := fnExactCountZeroUptoRow.holds Try.pinned (OpenSpec.upto fnExactCountZeroSpec)

/-- 'laws.FnExactZeroGroups', WHERE WHAT IT READS IS OF BULK AT MOST 1048576: true; the input reads as it did. -/
def fnExactZeroGroupsUptoRow : OpenClaim := { program := "ytdbccenmfdjkjaa", sum := "8c8dfd03da88c547e9c175172dc000f5d91a92d6de15bbb376350e938da18c36", func := "loop.example/g01159/laws.FnExactZeroGroups", spec := "fnExactZeroGroups", unfollowed := true, recurses := true, apart := false, narrowed := true }
def FnExactZeroGroupsUptoSaid : Prop := fnExactZeroGroupsUptoRow.holds Try.pinned (OpenSpec.upto fnExactZeroGroupsSpec)

/-- 'laws.FnExactSplitAlike', WHERE WHAT IT READS IS OF BULK AT MOST 1048576: true; the input reads as it did. -/
def fnExactSplitAlikeUptoRow : OpenClaim := { program := "ytdbccenmfdjkjaa", sum := "8c8dfd03da88c547e9c175172dc000f5d91a92d6de15bbb376350e938da18c36", func := "loop.example/g01159/laws.FnExactSplitAlike", spec := "fnExactSplitAlike", unfollowed := true, recurses := true, apart := false, narrowed := true }
def FnExactSplitAlikeUptoSaid : Prop := fnExactSplitAlikeUptoRow.holds Try.pinned (OpenSpec.upto fnExactSplitAlikeSpec)

end Rows
end Go.Proofs.Ytdbccenmfdjkjaa
