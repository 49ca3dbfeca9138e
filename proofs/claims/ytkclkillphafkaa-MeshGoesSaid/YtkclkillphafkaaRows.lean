/-
  No cell of these rows narrows 'for every input' (looked for: loops, veiled, ifaces, maps, wideKeys, modest, calm, conditions, laid).
  DERIVED. THE GIVEN ROWS OF THIS SEAT. 6 by the template 'for every input the law returns true; each argument reads behind the call as it read before'; 0 by the template 'total and deterministic' (their statements: YtkclkillphafkaaTotals.lean).
  GIVEN WITH THE SEED: the statements are not yours to turn. If you find one false, say at which input.
  Laid BY PROGRAM, IN A SANDBOX (cutbox-rows.mjs): the forced cells as the released guide's own fill.sh prints them over the translation 6c308fb3f6d8f8a9… (all of the seat's roots in one cut). By AI agents, Wed Nov 11 2026. No macro, syntax, notation, axiom, sorry.
-/
import Derived.Test.YtkclkillphafkaaChecked
import GoSem.Claim
import GoSem.ClaimJoined
import GoSem.ClaimMapViews
import Derived.JoinedTies
import Derived.KernelRfl
namespace Go.Proofs.Ytkclkillphafkaa
/- THE CELL 'sum', in the pinned program and in every row, IS THE sha256 OF THE DUMP (.gsa) THAT YtkclkillphafkaaProg.lean LOADS. Nothing in Lean hashes anything: it is a label: what it is worth is what the hold of that sum in a sandbox is worth. -/
noncomputable def Try.pinned : Pinned := { name := "ytkclkillphafkaa", sum := "6c308fb3f6d8f8a968edc638c3f6c3c53915634a53c56a4bfaddc428571c50b6", checked := Try.checked }
namespace Rows
def none {H : Type} : Left H := { results := [], args := [] }

/-- 'dioramalaw04.MeshPrim': WHATEVER THE INPUT: true; the input reads as it did. -/
def meshPrimSpec : ChangeSpec := { name := "meshPrim", fn := fun _ => fun
  | [d] => { results := [.lit (.bool true)], args := [d] }
  | _ => none }
def meshPrimRow : OpenClaim := { program := "ytkclkillphafkaa", sum := "6c308fb3f6d8f8a968edc638c3f6c3c53915634a53c56a4bfaddc428571c50b6", func := "diorama/dioramalaw04.MeshPrim", spec := "meshPrim", apart := false }
def MeshPrimSaid : Prop := meshPrimRow.holds Try.pinned (OpenSpec.ofChange meshPrimSpec)

/-- ITS FALSE NEIGHBOUR: 'it returns false'. Refute it at one input. -/
def meshPrimWrong : ChangeSpec := { name := "meshPrim", fn := fun _ => fun
  | [d] => { results := [.lit (.bool false)], args := [d] }
  | _ => none }
def MeshPrimWrongFalsely : Prop := meshPrimRow.holds Try.pinned (OpenSpec.ofChange meshPrimWrong)

/-- 'dioramalaw04.MeshCounts': WHATEVER THE INPUT: true; the input reads as it did. -/
def meshCountsSpec : ChangeSpec := { name := "meshCounts", fn := fun _ => fun
  | [d] => { results := [.lit (.bool true)], args := [d] }
  | _ => none }
def meshCountsRow : OpenClaim := { program := "ytkclkillphafkaa", sum := "6c308fb3f6d8f8a968edc638c3f6c3c53915634a53c56a4bfaddc428571c50b6", func := "diorama/dioramalaw04.MeshCounts", spec := "meshCounts", apart := false }
def MeshCountsSaid : Prop := meshCountsRow.holds Try.pinned (OpenSpec.ofChange meshCountsSpec)

/-- ITS FALSE NEIGHBOUR: 'it returns false'. Refute it at one input. -/
def meshCountsWrong : ChangeSpec := { name := "meshCounts", fn := fun _ => fun
  | [d] => { results := [.lit (.bool false)], args := [d] }
  | _ => none }
def MeshCountsWrongFalsely : Prop := meshCountsRow.holds Try.pinned (OpenSpec.ofChange meshCountsWrong)

/-- 'dioramalaw04.MeshStrip': WHATEVER THE INPUT: true; the input reads as it did. -/
def meshStripSpec : ChangeSpec := { name := "meshStrip", fn := fun _ => fun
  | [d] => { results := [.lit (.bool true)], args := [d] }
  | _ => none }
def meshStripRow : OpenClaim := { program := "ytkclkillphafkaa", sum := "6c308fb3f6d8f8a968edc638c3f6c3c53915634a53c56a4bfaddc428571c50b6", func := "diorama/dioramalaw04.MeshStrip", spec := "meshStrip", apart := false }
def MeshStripSaid : Prop := meshStripRow.holds Try.pinned (OpenSpec.ofChange meshStripSpec)

/-- ITS FALSE NEIGHBOUR: 'it returns false'. Refute it at one input. -/
def meshStripWrong : ChangeSpec := { name := "meshStrip", fn := fun _ => fun
  | [d] => { results := [.lit (.bool false)], args := [d] }
  | _ => none }
def MeshStripWrongFalsely : Prop := meshStripRow.holds Try.pinned (OpenSpec.ofChange meshStripWrong)

/-- 'dioramalaw04.MeshNames': WHATEVER THE INPUT: true; the input reads as it did. -/
def meshNamesSpec : ChangeSpec := { name := "meshNames", fn := fun _ => fun
  | [] => { results := [.lit (.bool true)], args := [] }
  | _ => none }
def meshNamesRow : OpenClaim := { program := "ytkclkillphafkaa", sum := "6c308fb3f6d8f8a968edc638c3f6c3c53915634a53c56a4bfaddc428571c50b6", func := "diorama/dioramalaw04.MeshNames", spec := "meshNames", unfollowed := true, recurses := true, apart := false }
def MeshNamesSaid : Prop := meshNamesRow.holds Try.pinned (OpenSpec.ofChange meshNamesSpec)

/-- ITS FALSE NEIGHBOUR: 'it returns false'. Refute it at one input. -/
def meshNamesWrong : ChangeSpec := { name := "meshNames", fn := fun _ => fun
  | [] => { results := [.lit (.bool false)], args := [] }
  | _ => none }
def MeshNamesWrongFalsely : Prop := meshNamesRow.holds Try.pinned (OpenSpec.ofChange meshNamesWrong)

/-- 'dioramalaw04.MeshIn': WHATEVER THE INPUT: true; the input reads as it did. -/
def meshInSpec : ChangeSpec := { name := "meshIn", fn := fun _ => fun
  | [d] => { results := [.lit (.bool true)], args := [d] }
  | _ => none }
def meshInRow : OpenClaim := { program := "ytkclkillphafkaa", sum := "6c308fb3f6d8f8a968edc638c3f6c3c53915634a53c56a4bfaddc428571c50b6", func := "diorama/dioramalaw04.MeshIn", spec := "meshIn", unfollowed := true, recurses := true, apart := false }
def MeshInSaid : Prop := meshInRow.holds Try.pinned (OpenSpec.ofChange meshInSpec)

/-- ITS FALSE NEIGHBOUR: 'it returns false'. Refute it at one input. -/
def meshInWrong : ChangeSpec := { name := "meshIn", fn := fun _ => fun
  | [d] => { results := [.lit (.bool false)], args := [d] }
  | _ => none }
def MeshInWrongFalsely : Prop := meshInRow.holds Try.pinned (OpenSpec.ofChange meshInWrong)

/-- 'dioramalaw04.MeshGoes': WHATEVER THE INPUT: true; the input reads as it did. -/
def meshGoesSpec : ChangeSpec := { name := "meshGoes", fn := fun _ => fun
  | [d1, d2] => { results := [.lit (.bool true)], args := [d1, d2] }
  | _ => none }
def meshGoesRow : OpenClaim := { program := "ytkclkillphafkaa", sum := "6c308fb3f6d8f8a968edc638c3f6c3c53915634a53c56a4bfaddc428571c50b6", func := "diorama/dioramalaw04.MeshGoes", spec := "meshGoes", unfollowed := true, recurses := true, apart := false }
def MeshGoesSaid : Prop := meshGoesRow.holds Try.pinned (OpenSpec.ofChange meshGoesSpec)

/-- ITS FALSE NEIGHBOUR: 'it returns false'. Refute it at one input. -/
def meshGoesWrong : ChangeSpec := { name := "meshGoes", fn := fun _ => fun
  | [d1, d2] => { results := [.lit (.bool false)], args := [d1, d2] }
  | _ => none }
def MeshGoesWrongFalsely : Prop := meshGoesRow.holds Try.pinned (OpenSpec.ofChange meshGoesWrong)

/- THE SECOND FORM. 'bulk': how many values and letters a reading holds, each counted each time it is reached (what is shared counts as often as it is met; a slice's spare places count too). A statement '..UptoSaid' is the law's where the arguments, and the package variables that the reading takes, are together of bulk at most 1048576: NARROWER than '..Said'. Prove '..Said' where nothing that the law and all that it calls make is longer than what came in: it says more and counts as full. Else prove '..UptoSaid'. A law counts once. -/
mutual
def uptoBulk {H : Type} : DataW H → Nat
  | .lit (.string bytes) => bytes.length + 1
  | .lit _ => 1
  | .nil => 1
  | .ptr d => uptoBulk d + 1
  | .slice elems spare => uptoBulkAll elems + uptoBulkAll spare + 1
  | .agg parts => uptoBulkAll parts + 1
  | .iface _ d => uptoBulk d + 1
  | .map entries => uptoBulkEntries entries + 1
  | .held _ => 1
def uptoBulkAll {H : Type} : List (DataW H) → Nat
  | [] => 0
  | d :: r => uptoBulk d + uptoBulkAll r
def uptoBulkEntries {H : Type} : List (Lit × DataW H) → Nat
  | [] => 0
  | x :: r => uptoBulkEntry x + uptoBulkEntries r
def uptoBulkEntry {H : Type} : Lit × DataW H → Nat
  | (.string bytes, d) => bytes.length + uptoBulk d + 1
  | (_, d) => uptoBulk d + 1
 end
def uptoSmall : (H : Type) → List (DataW H) → Bool := fun _ ds => decide (uptoBulkAll ds ≤ 1048576)
def OpenSpec.upto (s : _root_.Go.ChangeSpec) : _root_.Go.OpenSpec := { _root_.Go.OpenSpec.ofChange s with cond := some uptoSmall }

/-- 'dioramalaw04.MeshPrim', WHERE WHAT IT READS IS OF BULK AT MOST 1048576: true; the input reads as it did. -/
def meshPrimUptoRow : OpenClaim := { program := "ytkclkillphafkaa", sum := "6c308fb3f6d8f8a968edc638c3f6c3c53915634a53c56a4bfaddc428571c50b6", func := "diorama/dioramalaw04.MeshPrim", spec := "meshPrim", apart := false, narrowed := true }
def MeshPrimUptoSaid : Prop := meshPrimUptoRow.holds Try.pinned (OpenSpec.upto meshPrimSpec)

/-- 'dioramalaw04.MeshCounts', WHERE WHAT IT READS IS OF BULK AT MOST 1048576: true; the input reads as it did. -/
def meshCountsUptoRow : OpenClaim := { program := "ytkclkillphafkaa", sum := "6c308fb3f6d8f8a968edc638c3f6c3c53915634a53c56a4bfaddc428571c50b6", func := "diorama/dioramalaw04.MeshCounts", spec := "meshCounts", apart := false, narrowed := true }
def MeshCountsUptoSaid : Prop := meshCountsUptoRow.holds Try.pinned (OpenSpec.upto meshCountsSpec)

/-- 'dioramalaw04.MeshStrip', WHERE WHAT IT READS IS OF BULK AT MOST 1048576: true; the input reads as it did. -/
def meshStripUptoRow : OpenClaim := { program := "ytkclkillphafkaa", sum := "6c308fb3f6d8f8a968edc638c3f6c3c53915634a53c56a4bfaddc428571c50b6", func := "diorama/dioramalaw04.MeshStrip", spec := "meshStrip", apart := false, narrowed := true }
def MeshStripUptoSaid : Prop := meshStripUptoRow.holds Try.pinned (OpenSpec.upto meshStripSpec)

/-- 'dioramalaw04.MeshNames', WHERE WHAT IT READS IS OF BULK AT MOST 1048576: true; the input reads as it did. -/
def meshNamesUptoRow : OpenClaim := { program := "ytkclkillphafkaa", sum := "6c308fb3f6d8f8a968edc638c3f6c3c53915634a53c56a4bfaddc428571c50b6", func := "diorama/dioramalaw04.MeshNames", spec := "meshNames", unfollowed := true, recurses := true, apart := false, narrowed := true }
def MeshNamesUptoSaid : Prop := meshNamesUptoRow.holds Try.pinned (OpenSpec.upto meshNamesSpec)

/-- 'dioramalaw04.MeshIn', WHERE WHAT IT READS IS OF BULK AT MOST 1048576: true; the input reads as it did. -/
def meshInUptoRow : OpenClaim := { program := "ytkclkillphafkaa", sum := "6c308fb3f6d8f8a968edc638c3f6c3c53915634a53c56a4bfaddc428571c50b6", func := "diorama/dioramalaw04.MeshIn", spec := "meshIn", unfollowed := true, recurses := true, apart := false, narrowed := true }
def MeshInUptoSaid : Prop := meshInUptoRow.holds Try.pinned (OpenSpec.upto meshInSpec)

/-- 'dioramalaw04.MeshGoes', WHERE WHAT IT READS IS OF BULK AT MOST 1048576: true; the input reads as it did. -/
def meshGoesUptoRow : OpenClaim := { program := "ytkclkillphafkaa", sum := "6c308fb3f6d8f8a968edc638c3f6c3c53915634a53c56a4bfaddc428571c50b6", func := "diorama/dioramalaw04.MeshGoes", spec := "meshGoes", unfollowed := true, recurses := true, apart := false, narrowed := true }
def MeshGoesUptoSaid : Prop := meshGoesUptoRow.holds Try.pinned (OpenSpec.upto meshGoesSpec)

end Rows
end Go.Proofs.Ytkclkillphafkaa
