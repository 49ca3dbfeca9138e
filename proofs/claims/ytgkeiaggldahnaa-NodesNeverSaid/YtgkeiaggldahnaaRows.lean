/-
  No cell of these rows narrows 'for every input' (looked for: loops, veiled, ifaces, maps, wideKeys, modest, calm, conditions, laid).
  DERIVED. THE GIVEN ROWS OF THIS SEAT. 6 by the template 'for every input the law returns true; each argument reads behind the call as it read before'; 0 by the template 'total and deterministic' (their statements: YtgkeiaggldahnaaTotals.lean).
  GIVEN WITH THE SEED: the statements are not yours to turn. If you find one false, say at which input.
  Laid BY PROGRAM, IN A SANDBOX (cutbox-rows.mjs): the forced cells as the released guide's own fill.sh prints them over the translation 5b50552a6625a10b… (all of the seat's roots in one cut). By AI agents, Wed Nov 11 2026. No macro, syntax, notation, axiom, sorry.
-/
import Derived.Test.YtgkeiaggldahnaaChecked
import GoSem.Claim
import GoSem.ClaimJoined
import GoSem.ClaimMapViews
import Derived.JoinedTies
import Derived.KernelRfl
namespace Go.Proofs.Ytgkeiaggldahnaa
/- THE CELL 'sum', in the pinned program and in every row, IS THE sha256 OF THE DUMP (.gsa) THAT YtgkeiaggldahnaaProg.lean LOADS. Nothing in Lean hashes anything: it is a label: what it is worth is what the hold of that sum in a sandbox is worth. -/
noncomputable def Try.pinned : Pinned := { name := "ytgkeiaggldahnaa", sum := "5b50552a6625a10b4b6b1335e889ee755eb41226b4e44b7da5c1ab1ac59c0b40", checked := Try.checked }
namespace Rows
def none {H : Type} : Left H := { results := [], args := [] }

/-- 'dioramalaw06.NodesTell': WHATEVER THE INPUT: true; the input reads as it did. -/
def nodesTellSpec : ChangeSpec := { name := "nodesTell", fn := fun _ => fun
  | [d1, d2, d3] => { results := [.lit (.bool true)], args := [d1, d2, d3] }
  | _ => none }
def nodesTellRow : OpenClaim := { program := "ytgkeiaggldahnaa", sum := "5b50552a6625a10b4b6b1335e889ee755eb41226b4e44b7da5c1ab1ac59c0b40", func := "diorama/dioramalaw06.NodesTell", spec := "nodesTell", unfollowed := true, recurses := true, plainKeys := false, apart := false }
def NodesTellSaid : Prop := nodesTellRow.holds Try.pinned (OpenSpec.ofChange nodesTellSpec)

/-- ITS FALSE NEIGHBOUR: 'it returns false'. Refute it at one input. -/
def nodesTellWrong : ChangeSpec := { name := "nodesTell", fn := fun _ => fun
  | [d1, d2, d3] => { results := [.lit (.bool false)], args := [d1, d2, d3] }
  | _ => none }
def NodesTellWrongFalsely : Prop := nodesTellRow.holds Try.pinned (OpenSpec.ofChange nodesTellWrong)

/-- 'dioramalaw06.NodesBoth': WHATEVER THE INPUT: true; the input reads as it did. -/
def nodesBothSpec : ChangeSpec := { name := "nodesBoth", fn := fun _ => fun
  | [d1, d2, d3] => { results := [.lit (.bool true)], args := [d1, d2, d3] }
  | _ => none }
def nodesBothRow : OpenClaim := { program := "ytgkeiaggldahnaa", sum := "5b50552a6625a10b4b6b1335e889ee755eb41226b4e44b7da5c1ab1ac59c0b40", func := "diorama/dioramalaw06.NodesBoth", spec := "nodesBoth", inPlace := ["slices.overlaps[diorama/api.Handle]"], unfollowed := true, recurses := true, plainKeys := false, apart := false }
def NodesBothSaid : Prop := nodesBothRow.holds Try.pinned (OpenSpec.ofChange nodesBothSpec)

/-- ITS FALSE NEIGHBOUR: 'it returns false'. Refute it at one input. -/
def nodesBothWrong : ChangeSpec := { name := "nodesBoth", fn := fun _ => fun
  | [d1, d2, d3] => { results := [.lit (.bool false)], args := [d1, d2, d3] }
  | _ => none }
def NodesBothWrongFalsely : Prop := nodesBothRow.holds Try.pinned (OpenSpec.ofChange nodesBothWrong)

/-- 'dioramalaw06.NodesBack': WHATEVER THE INPUT: true; the input reads as it did. -/
def nodesBackSpec : ChangeSpec := { name := "nodesBack", fn := fun _ => fun
  | [d1, d2, d3, d4] => { results := [.lit (.bool true)], args := [d1, d2, d3, d4] }
  | _ => none }
def nodesBackRow : OpenClaim := { program := "ytgkeiaggldahnaa", sum := "5b50552a6625a10b4b6b1335e889ee755eb41226b4e44b7da5c1ab1ac59c0b40", func := "diorama/dioramalaw06.NodesBack", spec := "nodesBack", inPlace := ["slices.overlaps[diorama/api.Handle]"], unfollowed := true, recurses := true, plainKeys := false, apart := false }
def NodesBackSaid : Prop := nodesBackRow.holds Try.pinned (OpenSpec.ofChange nodesBackSpec)

/-- ITS FALSE NEIGHBOUR: 'it returns false'. Refute it at one input. -/
def nodesBackWrong : ChangeSpec := { name := "nodesBack", fn := fun _ => fun
  | [d1, d2, d3, d4] => { results := [.lit (.bool false)], args := [d1, d2, d3, d4] }
  | _ => none }
def NodesBackWrongFalsely : Prop := nodesBackRow.holds Try.pinned (OpenSpec.ofChange nodesBackWrong)

/-- 'dioramalaw06.NodesNames': WHATEVER THE INPUT: true; the input reads as it did. -/
def nodesNamesSpec : ChangeSpec := { name := "nodesNames", fn := fun _ => fun
  | [] => { results := [.lit (.bool true)], args := [] }
  | _ => none }
def nodesNamesRow : OpenClaim := { program := "ytgkeiaggldahnaa", sum := "5b50552a6625a10b4b6b1335e889ee755eb41226b4e44b7da5c1ab1ac59c0b40", func := "diorama/dioramalaw06.NodesNames", spec := "nodesNames", inPlace := ["slices.overlaps[diorama/api.Handle]"], unfollowed := true, recurses := true, plainKeys := false, apart := false }
def NodesNamesSaid : Prop := nodesNamesRow.holds Try.pinned (OpenSpec.ofChange nodesNamesSpec)

/-- ITS FALSE NEIGHBOUR: 'it returns false'. Refute it at one input. -/
def nodesNamesWrong : ChangeSpec := { name := "nodesNames", fn := fun _ => fun
  | [] => { results := [.lit (.bool false)], args := [] }
  | _ => none }
def NodesNamesWrongFalsely : Prop := nodesNamesRow.holds Try.pinned (OpenSpec.ofChange nodesNamesWrong)

/-- 'dioramalaw06.NodesNever': WHATEVER THE INPUT: true; the input reads as it did. -/
def nodesNeverSpec : ChangeSpec := { name := "nodesNever", fn := fun _ => fun
  | [d1, d2] => { results := [.lit (.bool true)], args := [d1, d2] }
  | _ => none }
def nodesNeverRow : OpenClaim := { program := "ytgkeiaggldahnaa", sum := "5b50552a6625a10b4b6b1335e889ee755eb41226b4e44b7da5c1ab1ac59c0b40", func := "diorama/dioramalaw06.NodesNever", spec := "nodesNever", inPlace := ["slices.overlaps[diorama/api.Handle]"], unfollowed := true, recurses := true, plainKeys := false, apart := false }
def NodesNeverSaid : Prop := nodesNeverRow.holds Try.pinned (OpenSpec.ofChange nodesNeverSpec)

/-- ITS FALSE NEIGHBOUR: 'it returns false'. Refute it at one input. -/
def nodesNeverWrong : ChangeSpec := { name := "nodesNever", fn := fun _ => fun
  | [d1, d2] => { results := [.lit (.bool false)], args := [d1, d2] }
  | _ => none }
def NodesNeverWrongFalsely : Prop := nodesNeverRow.holds Try.pinned (OpenSpec.ofChange nodesNeverWrong)

/-- 'dioramalaw06.NodesTurn': WHATEVER THE INPUT: true; the input reads as it did. -/
def nodesTurnSpec : ChangeSpec := { name := "nodesTurn", fn := fun _ => fun
  | [d1, d2, d3, d4, d5] => { results := [.lit (.bool true)], args := [d1, d2, d3, d4, d5] }
  | _ => none }
def nodesTurnRow : OpenClaim := { program := "ytgkeiaggldahnaa", sum := "5b50552a6625a10b4b6b1335e889ee755eb41226b4e44b7da5c1ab1ac59c0b40", func := "diorama/dioramalaw06.NodesTurn", spec := "nodesTurn", inPlace := ["slices.overlaps[diorama/api.Handle]"], unfollowed := true, recurses := true, plainKeys := false, apart := false }
def NodesTurnSaid : Prop := nodesTurnRow.holds Try.pinned (OpenSpec.ofChange nodesTurnSpec)

/-- ITS FALSE NEIGHBOUR: 'it returns false'. Refute it at one input. -/
def nodesTurnWrong : ChangeSpec := { name := "nodesTurn", fn := fun _ => fun
  | [d1, d2, d3, d4, d5] => { results := [.lit (.bool false)], args := [d1, d2, d3, d4, d5] }
  | _ => none }
def NodesTurnWrongFalsely : Prop := nodesTurnRow.holds Try.pinned (OpenSpec.ofChange nodesTurnWrong)

/- THE SECOND FORM. 'bulk': how many values and letters a reading holds, each counted each time it is reached (what is shared counts as often as it is met; a slice's spare places count too). A statement '..UptoSaid' is the law's where the arguments, and the package variables that the reading takes, are together of bulk at most 1048576: NARROWER than '..Said'. Prove '..Said' where nothing that the law and all that it calls make is longer than what came in: it says more and counts as full. Else prove '..UptoSaid'. A law counts once. -/
mutual
def uptoBulk {H : Type} : DataW H → Nat
  | .lit (.string bytes) => bytes.length + 1
  | .lit _ => 1
  | .nil => 1
  | .ptr d => uptoBulk d + 1
  | .slice elems spare => uptoBulkAll elems + uptoBulkAll spare + 1
  | .agg parts => uptoBulkAll parts + 1
  | .iface _ d => uptoBulk d + 1
  | .map entries => uptoBulkEntries entries + 1
  | .held _ => 1
def uptoBulkAll {H : Type} : List (DataW H) → Nat
  | [] => 0
  | d :: r => uptoBulk d + uptoBulkAll r
def uptoBulkEntries {H : Type} : List (Lit × DataW H) → Nat
  | [] => 0
  | x :: r => uptoBulkEntry x + uptoBulkEntries r
def uptoBulkEntry {H : Type} : Lit × DataW H → Nat
  | (.string bytes, d) => bytes.length + uptoBulk d + 1
  | (_, d) => uptoBulk d + 1
 end
def uptoSmall : (H : Type) → List (DataW H) → Bool := fun _ ds => decide (uptoBulkAll ds ≤ 1048576)
def OpenSpec.upto (s : _root_.Go.ChangeSpec) : _root_.Go.OpenSpec := { _root_.Go.OpenSpec.ofChange s with cond := some uptoSmall }

/-- 'dioramalaw06.NodesTell', WHERE WHAT IT READS IS OF BULK AT MOST 1048576: true; the input reads as it did. -/
def nodesTellUptoRow : OpenClaim := { program := "ytgkeiaggldahnaa", sum := "5b50552a6625a10b4b6b1335e889ee755eb41226b4e44b7da5c1ab1ac59c0b40", func := "diorama/dioramalaw06.NodesTell", spec := "nodesTell", unfollowed := true, recurses := true, plainKeys := false, apart := false, narrowed := true }
def NodesTellUptoSaid : Prop := nodesTellUptoRow.holds Try.pinned (OpenSpec.upto nodesTellSpec)

/-- 'dioramalaw06.NodesBoth', WHERE WHAT IT READS IS OF BULK AT MOST 1048576: true; the input reads as it did. -/
def nodesBothUptoRow : OpenClaim := { program := "ytgkeiaggldahnaa", sum := "5b50552a6625a10b4b6b1335e889ee755eb41226b4e44b7da5c1ab1ac59c0b40", func := "diorama/dioramalaw06.NodesBoth", spec := "nodesBoth", inPlace := ["slices.overlaps[diorama/api.Handle]"], unfollowed := true, recurses := true, plainKeys := false, apart := false, narrowed := true }
def NodesBothUptoSaid : Prop := nodesBothUptoRow.holds Try.pinned (OpenSpec.upto nodesBothSpec)

/-- 'dioramalaw06.NodesBack', WHERE WHAT IT READS IS OF BULK AT MOST 1048576: true; the input reads as it did. -/
def nodesBackUptoRow : OpenClaim := { program := "ytgkeiaggldahnaa", sum := "5b50552a6625a10b4b6b1335e889ee755eb41226b4e44b7da5c1ab1ac59c0b40", func := "diorama/dioramalaw06.NodesBack", spec := "nodesBack", inPlace := ["slices.overlaps[diorama/api.Handle]"], unfollowed := true, recurses := true, plainKeys := false, apart := false, narrowed := true }
def NodesBackUptoSaid : Prop := nodesBackUptoRow.holds Try.pinned (OpenSpec.upto nodesBackSpec)

/-- 'dioramalaw06.NodesNames', WHERE WHAT IT READS IS OF BULK AT MOST 1048576: true; the input reads as it did. -/
def nodesNamesUptoRow : OpenClaim := { program := "ytgkeiaggldahnaa", sum := "5b50552a6625a10b4b6b1335e889ee755eb41226b4e44b7da5c1ab1ac59c0b40", func := "diorama/dioramalaw06.NodesNames", spec := "nodesNames", inPlace := ["slices.overlaps[diorama/api.Handle]"], unfollowed := true, recurses := true, plainKeys := false, apart := false, narrowed := true }
def NodesNamesUptoSaid : Prop := nodesNamesUptoRow.holds Try.pinned (OpenSpec.upto nodesNamesSpec)

/-- 'dioramalaw06.NodesNever', WHERE WHAT IT READS IS OF BULK AT MOST 1048576: true; the input reads as it did. -/
def nodesNeverUptoRow : OpenClaim := { program := "ytgkeiaggldahnaa", sum := "5b50552a6625a10b4b6b1335e889ee755eb41226b4e44b7da5c1ab1ac59c0b40", func := "diorama/dioramalaw06.NodesNever", spec := "nodesNever", inPlace := ["slices.overlaps[diorama/api.Handle]"], unfollowed := true, recurses := true, plainKeys := false, apart := false, narrowed := true }
def NodesNeverUptoSaid : Prop := nodesNeverUptoRow.holds Try.pinned (OpenSpec.upto nodesNeverSpec)

/-- 'dioramalaw06.NodesTurn', WHERE WHAT IT READS IS OF BULK AT MOST 1048576: true; the input reads as it did. -/
def nodesTurnUptoRow : OpenClaim := { program := "ytgkeiaggldahnaa", sum := "5b50552a6625a10b4b6b1335e889ee755eb41226b4e44b7da5c1ab1ac59c0b40", func := "diorama/dioramalaw06.NodesTurn", spec := "nodesTurn", inPlace := ["slices.overlaps[diorama/api.Handle]"], unfollowed := true, recurses := true, plainKeys := false, apart := false, narrowed := true }
def NodesTurnUptoSaid : Prop := nodesTurnUptoRow.holds Try.pinned (OpenSpec.upto nodesTurnSpec)

end Rows
end Go.Proofs.Ytgkeiaggldahnaa
