/-
  No cell of these rows narrows 'for every input' (looked for: loops, veiled, ifaces, maps, wideKeys, modest, calm, conditions, laid).
  DERIVED. THE GIVEN ROWS OF THIS SEAT. 5 by the template 'for every input the law returns true; each argument reads behind the call as it read before'; 0 by the template 'total and deterministic' (their statements: YtkblladjabpllaaTotals.lean).
  GIVEN WITH THE SEED: the statements are not yours to turn. If you find one false, say at which input.
  Laid BY PROGRAM, IN A SANDBOX (cutbox-rows.mjs): the forced cells as the released guide's own fill.sh prints them over the translation 79278f6f2720a47f… (all of the seat's roots in one cut). By AI agents, Wed Nov 11 2026. No macro, syntax, notation, axiom, sorry.
-/
import Derived.Test.YtkblladjabpllaaChecked
import GoSem.Claim
import GoSem.ClaimJoined
import GoSem.ClaimMapViews
import Derived.JoinedTies
import Derived.KernelRfl
namespace Go.Proofs.Ytkblladjabpllaa
/- THE CELL 'sum', in the pinned program and in every row, IS THE sha256 OF THE DUMP (.gsa) THAT YtkblladjabpllaaProg.lean LOADS. Nothing in Lean hashes anything: it is a label: what it is worth is what the hold of that sum in a sandbox is worth. -/
noncomputable def Try.pinned : Pinned := { name := "ytkblladjabpllaa", sum := "79278f6f2720a47f404776661078871155ddfa8e0aff9ec3bb7b445f0db7dd7a", checked := Try.checked }
namespace Rows
def none {H : Type} : Left H := { results := [], args := [] }

/-- 'dioramalaw08.BytesNum': WHATEVER THE INPUT: true; the input reads as it did. -/
def bytesNumSpec : ChangeSpec := { name := "bytesNum", fn := fun _ => fun
  | [d1, d2] => { results := [.lit (.bool true)], args := [d1, d2] }
  | _ => none }
def bytesNumRow : OpenClaim := { program := "ytkblladjabpllaa", sum := "79278f6f2720a47f404776661078871155ddfa8e0aff9ec3bb7b445f0db7dd7a", func := "diorama/dioramalaw08.BytesNum", spec := "bytesNum", apart := false }
def BytesNumSaid : Prop := bytesNumRow.holds Try.pinned (OpenSpec.ofChange bytesNumSpec)

/-- ITS FALSE NEIGHBOUR: 'it returns false'. Refute it at one input. -/
def bytesNumWrong : ChangeSpec := { name := "bytesNum", fn := fun _ => fun
  | [d1, d2] => { results := [.lit (.bool false)], args := [d1, d2] }
  | _ => none }
def BytesNumWrongFalsely : Prop := bytesNumRow.holds Try.pinned (OpenSpec.ofChange bytesNumWrong)

/-- 'dioramalaw08.BytesBack': WHATEVER THE INPUT: true; the input reads as it did. -/
def bytesBackSpec : ChangeSpec := { name := "bytesBack", fn := fun _ => fun
  | [d1, d2] => { results := [.lit (.bool true)], args := [d1, d2] }
  | _ => none }
def bytesBackRow : OpenClaim := { program := "ytkblladjabpllaa", sum := "79278f6f2720a47f404776661078871155ddfa8e0aff9ec3bb7b445f0db7dd7a", func := "diorama/dioramalaw08.BytesBack", spec := "bytesBack", apart := false }
def BytesBackSaid : Prop := bytesBackRow.holds Try.pinned (OpenSpec.ofChange bytesBackSpec)

/-- ITS FALSE NEIGHBOUR: 'it returns false'. Refute it at one input. -/
def bytesBackWrong : ChangeSpec := { name := "bytesBack", fn := fun _ => fun
  | [d1, d2] => { results := [.lit (.bool false)], args := [d1, d2] }
  | _ => none }
def BytesBackWrongFalsely : Prop := bytesBackRow.holds Try.pinned (OpenSpec.ofChange bytesBackWrong)

/-- 'dioramalaw08.BytesList': WHATEVER THE INPUT: true; the input reads as it did. -/
def bytesListSpec : ChangeSpec := { name := "bytesList", fn := fun _ => fun
  | [d1, d2, d3] => { results := [.lit (.bool true)], args := [d1, d2, d3] }
  | _ => none }
def bytesListRow : OpenClaim := { program := "ytkblladjabpllaa", sum := "79278f6f2720a47f404776661078871155ddfa8e0aff9ec3bb7b445f0db7dd7a", func := "diorama/dioramalaw08.BytesList", spec := "bytesList", apart := false }
def BytesListSaid : Prop := bytesListRow.holds Try.pinned (OpenSpec.ofChange bytesListSpec)

/-- ITS FALSE NEIGHBOUR: 'it returns false'. Refute it at one input. -/
def bytesListWrong : ChangeSpec := { name := "bytesList", fn := fun _ => fun
  | [d1, d2, d3] => { results := [.lit (.bool false)], args := [d1, d2, d3] }
  | _ => none }
def BytesListWrongFalsely : Prop := bytesListRow.holds Try.pinned (OpenSpec.ofChange bytesListWrong)

/-- 'dioramalaw08.BytesNames': WHATEVER THE INPUT: true; the input reads as it did. -/
def bytesNamesSpec : ChangeSpec := { name := "bytesNames", fn := fun _ => fun
  | [] => { results := [.lit (.bool true)], args := [] }
  | _ => none }
def bytesNamesRow : OpenClaim := { program := "ytkblladjabpllaa", sum := "79278f6f2720a47f404776661078871155ddfa8e0aff9ec3bb7b445f0db7dd7a", func := "diorama/dioramalaw08.BytesNames", spec := "bytesNames", apart := false }
def BytesNamesSaid : Prop := bytesNamesRow.holds Try.pinned (OpenSpec.ofChange bytesNamesSpec)

/-- ITS FALSE NEIGHBOUR: 'it returns false'. Refute it at one input. -/
def bytesNamesWrong : ChangeSpec := { name := "bytesNames", fn := fun _ => fun
  | [] => { results := [.lit (.bool false)], args := [] }
  | _ => none }
def BytesNamesWrongFalsely : Prop := bytesNamesRow.holds Try.pinned (OpenSpec.ofChange bytesNamesWrong)

/-- 'dioramalaw08.BytesBacks': WHATEVER THE INPUT: true; the input reads as it did. -/
def bytesBacksSpec : ChangeSpec := { name := "bytesBacks", fn := fun _ => fun
  | [d1, d2, d3] => { results := [.lit (.bool true)], args := [d1, d2, d3] }
  | _ => none }
def bytesBacksRow : OpenClaim := { program := "ytkblladjabpllaa", sum := "79278f6f2720a47f404776661078871155ddfa8e0aff9ec3bb7b445f0db7dd7a", func := "diorama/dioramalaw08.BytesBacks", spec := "bytesBacks", apart := false }
def BytesBacksSaid : Prop := bytesBacksRow.holds Try.pinned (OpenSpec.ofChange bytesBacksSpec)

/-- ITS FALSE NEIGHBOUR: 'it returns false'. Refute it at one input. -/
def bytesBacksWrong : ChangeSpec := { name := "bytesBacks", fn := fun _ => fun
  | [d1, d2, d3] => { results := [.lit (.bool false)], args := [d1, d2, d3] }
  | _ => none }
def BytesBacksWrongFalsely : Prop := bytesBacksRow.holds Try.pinned (OpenSpec.ofChange bytesBacksWrong)

/- THE SECOND FORM. 'bulk': how many values and letters a reading holds, each counted each time it is reached (what is shared counts as often as it is met; a slice's spare places count too). A statement '..UptoSaid' is the law's where the arguments, and the package variables that the reading takes, are together of bulk at most 1048576: NARROWER than '..Said'. Prove '..Said' where nothing that the law and all that it calls make is longer than what came in: it says more and counts as full. Else prove '..UptoSaid'. A law counts once. -/
mutual
def uptoBulk {H : Type} : DataW H → Nat
  | .lit (.string bytes) => bytes.length + 1
  | .lit _ => 1
  | .nil => 1
  | .ptr d => uptoBulk d + 1
  | .slice elems spare => uptoBulkAll elems + uptoBulkAll spare + 1
  | .agg parts => uptoBulkAll parts + 1
  | .iface _ d => uptoBulk d + 1
  | .map entries => uptoBulkEntries entries + 1
  | .held _ => 1
def uptoBulkAll {H : Type} : List (DataW H) → Nat
  | [] => 0
  | d :: r => uptoBulk d + uptoBulkAll r
def uptoBulkEntries {H : Type} : List (Lit × DataW H) → Nat
  | [] => 0
  | x :: r => uptoBulkEntry x + uptoBulkEntries r
def uptoBulkEntry {H : Type} : Lit × DataW H → Nat
  | (.string bytes, d) => bytes.length + uptoBulk d + 1
  | (_, d) => uptoBulk d + 1
 end
def uptoSmall : (H : Type) → List (DataW H) → Bool := fun _ ds => decide (uptoBulkAll ds ≤ 1048576)
def OpenSpec.upto (s : _root_.Go.ChangeSpec) : _root_.Go.OpenSpec := { _root_.Go.OpenSpec.ofChange s with cond := some uptoSmall }

/-- 'dioramalaw08.BytesNum', WHERE WHAT IT READS IS OF BULK AT MOST 1048576: true; the input reads as it did. -/
def bytesNumUptoRow : OpenClaim := { program := "ytkblladjabpllaa", sum := "79278f6f2720a47f404776661078871155ddfa8e0aff9ec3bb7b445f0db7dd7a", func := "diorama/dioramalaw08.BytesNum", spec := "bytesNum", apart := false, narrowed := true }
def BytesNumUptoSaid : Prop := bytesNumUptoRow.holds Try.pinned (OpenSpec.upto bytesNumSpec)

/-- 'dioramalaw08.BytesBack', WHERE WHAT IT READS IS OF BULK AT MOST 1048576: true; the input reads as it did. -/
def bytesBackUptoRow : OpenClaim := { program := "ytkblladjabpllaa", sum := "79278f6f2720a47f404776661078871155ddfa8e0aff9ec3bb7b445f0db7dd7a", func := "diorama/dioramalaw08.BytesBack", spec := "bytesBack", apart := false, narrowed := true }
def BytesBackUptoSaid : Prop := bytesBackUptoRow.holds Try.pinned (OpenSpec.upto bytesBackSpec)

/-- 'dioramalaw08.BytesList', WHERE WHAT IT READS IS OF BULK AT MOST 1048576: true; the input reads as it did. -/
def bytesListUptoRow : OpenClaim := { program := "ytkblladjabpllaa", sum := "79278f6f2720a47f404776661078871155ddfa8e0aff9ec3bb7b445f0db7dd7a", func := "diorama/dioramalaw08.BytesList", spec := "bytesList", apart := false, narrowed := true }
def BytesListUptoSaid : Prop := bytesListUptoRow.holds Try.pinned (OpenSpec.upto bytesListSpec)

/-- 'dioramalaw08.BytesNames', WHERE WHAT IT READS IS OF BULK AT MOST 1048576: true; the input reads as it did. -/
def bytesNamesUptoRow : OpenClaim := { program := "ytkblladjabpllaa", sum := "79278f6f2720a47f404776661078871155ddfa8e0aff9ec3bb7b445f0db7dd7a", func := "diorama/dioramalaw08.BytesNames", spec := "bytesNames", apart := false, narrowed := true }
def BytesNamesUptoSaid : Prop := bytesNamesUptoRow.holds Try.pinned (OpenSpec.upto bytesNamesSpec)

/-- 'dioramalaw08.BytesBacks', WHERE WHAT IT READS IS OF BULK AT MOST 1048576: true; the input reads as it did. -/
def bytesBacksUptoRow : OpenClaim := { program := "ytkblladjabpllaa", sum := "79278f6f2720a47f404776661078871155ddfa8e0aff9ec3bb7b445f0db7dd7a", func := "diorama/dioramalaw08.BytesBacks", spec := "bytesBacks", apart := false, narrowed := true }
def BytesBacksUptoSaid : Prop := bytesBacksUptoRow.holds Try.pinned (OpenSpec.upto bytesBacksSpec)

end Rows
end Go.Proofs.Ytkblladjabpllaa
