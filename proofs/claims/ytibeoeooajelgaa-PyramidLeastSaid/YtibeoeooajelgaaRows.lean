/-
  No cell of these rows narrows 'for every input' (looked for: loops, veiled, ifaces, maps, wideKeys, modest, calm, conditions, laid).
  DERIVED. THE GIVEN ROWS OF THIS SEAT. 10 by the template 'for every input the law returns true; each argument reads behind the call as it read before'; 0 by the template 'total and deterministic' (their statements: YtibeoeooajelgaaTotals.lean).
  GIVEN WITH THE SEED: the statements are not yours to turn. If you find one false, say at which input.
  Laid BY PROGRAM, IN A SANDBOX (cutbox-rows.mjs): the forced cells as the released guide's own fill.sh prints them over the translation 05a21b173cd4afa5… (all of the seat's roots in one cut). By AI agents, Wed Nov 11 2026. No macro, syntax, notation, axiom, sorry.
-/
import Derived.Test.YtibeoeooajelgaaChecked
import GoSem.Claim
import GoSem.ClaimJoined
import GoSem.ClaimMapViews
import Derived.JoinedTies
import Derived.KernelRfl
namespace Go.Proofs.Ytibeoeooajelgaa
/- THE CELL 'sum', in the pinned program and in every row, IS THE sha256 OF THE DUMP (.gsa) THAT YtibeoeooajelgaaProg.lean LOADS. Nothing in Lean hashes anything: it is a label: what it is worth is what the hold of that sum in a sandbox is worth. -/
noncomputable def Try.pinned : Pinned := { name := "ytibeoeooajelgaa", sum := "05a21b173cd4afa545e92ceac0ef09d862d728d12b8d881259b0b37a92ab7e59", checked := Try.checked }
namespace Rows
def none {H : Type} : Left H := { results := [], args := [] }

/-- 'dioramalaw25.FrameNews': WHATEVER THE INPUT: true; the input reads as it did. -/
def frameNewsSpec : ChangeSpec := { name := "frameNews", fn := fun _ => fun
  | [d1, d2, d3, d4, d5] => { results := [.lit (.bool true)], args := [d1, d2, d3, d4, d5] }
  | _ => none }
def frameNewsRow : OpenClaim := { program := "ytibeoeooajelgaa", sum := "05a21b173cd4afa545e92ceac0ef09d862d728d12b8d881259b0b37a92ab7e59", func := "diorama/dioramalaw25.FrameNews", spec := "frameNews", apart := false }
def FrameNewsSaid : Prop := frameNewsRow.holds Try.pinned (OpenSpec.ofChange frameNewsSpec)

/-- ITS FALSE NEIGHBOUR: 'it returns false'. Refute it at one input. -/
def frameNewsWrong : ChangeSpec := { name := "frameNews", fn := fun _ => fun
  | [d1, d2, d3, d4, d5] => { results := [.lit (.bool false)], args := [d1, d2, d3, d4, d5] }
  | _ => none }
def FrameNewsWrongFalsely : Prop := frameNewsRow.holds Try.pinned (OpenSpec.ofChange frameNewsWrong)

/-- 'dioramalaw25.FramePuts': WHATEVER THE INPUT: true; the input reads as it did. -/
def framePutsSpec : ChangeSpec := { name := "framePuts", fn := fun _ => fun
  | [d1, d2, d3, d4, d5, d6] => { results := [.lit (.bool true)], args := [d1, d2, d3, d4, d5, d6] }
  | _ => none }
def framePutsRow : OpenClaim := { program := "ytibeoeooajelgaa", sum := "05a21b173cd4afa545e92ceac0ef09d862d728d12b8d881259b0b37a92ab7e59", func := "diorama/dioramalaw25.FramePuts", spec := "framePuts", unfollowed := true, recurses := true, apart := false }
def FramePutsSaid : Prop := framePutsRow.holds Try.pinned (OpenSpec.ofChange framePutsSpec)

/-- ITS FALSE NEIGHBOUR: 'it returns false'. Refute it at one input. -/
def framePutsWrong : ChangeSpec := { name := "framePuts", fn := fun _ => fun
  | [d1, d2, d3, d4, d5, d6] => { results := [.lit (.bool false)], args := [d1, d2, d3, d4, d5, d6] }
  | _ => none }
def FramePutsWrongFalsely : Prop := framePutsRow.holds Try.pinned (OpenSpec.ofChange framePutsWrong)

/-- 'dioramalaw25.FrameNearer': WHATEVER THE INPUT: true; the input reads as it did. -/
def frameNearerSpec : ChangeSpec := { name := "frameNearer", fn := fun _ => fun
  | [d1, d2, d3] => { results := [.lit (.bool true)], args := [d1, d2, d3] }
  | _ => none }
def frameNearerRow : OpenClaim := { program := "ytibeoeooajelgaa", sum := "05a21b173cd4afa545e92ceac0ef09d862d728d12b8d881259b0b37a92ab7e59", func := "diorama/dioramalaw25.FrameNearer", spec := "frameNearer", apart := false }
def FrameNearerSaid : Prop := frameNearerRow.holds Try.pinned (OpenSpec.ofChange frameNearerSpec)

/-- ITS FALSE NEIGHBOUR: 'it returns false'. Refute it at one input. -/
def frameNearerWrong : ChangeSpec := { name := "frameNearer", fn := fun _ => fun
  | [d1, d2, d3] => { results := [.lit (.bool false)], args := [d1, d2, d3] }
  | _ => none }
def FrameNearerWrongFalsely : Prop := frameNearerRow.holds Try.pinned (OpenSpec.ofChange frameNearerWrong)

/-- 'dioramalaw27.PyramidTells': WHATEVER THE INPUT: true; the input reads as it did. -/
def pyramidTellsSpec : ChangeSpec := { name := "pyramidTells", fn := fun _ => fun
  | [d1, d2, d3] => { results := [.lit (.bool true)], args := [d1, d2, d3] }
  | _ => none }
def pyramidTellsRow : OpenClaim := { program := "ytibeoeooajelgaa", sum := "05a21b173cd4afa545e92ceac0ef09d862d728d12b8d881259b0b37a92ab7e59", func := "diorama/dioramalaw27.PyramidTells", spec := "pyramidTells", unfollowed := true, recurses := true, apart := false }
def PyramidTellsSaid : Prop := pyramidTellsRow.holds Try.pinned (OpenSpec.ofChange pyramidTellsSpec)

/-- ITS FALSE NEIGHBOUR: 'it returns false'. Refute it at one input. -/
def pyramidTellsWrong : ChangeSpec := { name := "pyramidTells", fn := fun _ => fun
  | [d1, d2, d3] => { results := [.lit (.bool false)], args := [d1, d2, d3] }
  | _ => none }
def PyramidTellsWrongFalsely : Prop := pyramidTellsRow.holds Try.pinned (OpenSpec.ofChange pyramidTellsWrong)

/-- 'dioramalaw25.FrameOrder': WHATEVER THE INPUT: true; the input reads as it did. -/
def frameOrderSpec : ChangeSpec := { name := "frameOrder", fn := fun _ => fun
  | [d1, d2, d3, d4, d5, d6, d7, d8, d9] => { results := [.lit (.bool true)], args := [d1, d2, d3, d4, d5, d6, d7, d8, d9] }
  | _ => none }
def frameOrderRow : OpenClaim := { program := "ytibeoeooajelgaa", sum := "05a21b173cd4afa545e92ceac0ef09d862d728d12b8d881259b0b37a92ab7e59", func := "diorama/dioramalaw25.FrameOrder", spec := "frameOrder", apart := false }
def FrameOrderSaid : Prop := frameOrderRow.holds Try.pinned (OpenSpec.ofChange frameOrderSpec)

/-- ITS FALSE NEIGHBOUR: 'it returns false'. Refute it at one input. -/
def frameOrderWrong : ChangeSpec := { name := "frameOrder", fn := fun _ => fun
  | [d1, d2, d3, d4, d5, d6, d7, d8, d9] => { results := [.lit (.bool false)], args := [d1, d2, d3, d4, d5, d6, d7, d8, d9] }
  | _ => none }
def FrameOrderWrongFalsely : Prop := frameOrderRow.holds Try.pinned (OpenSpec.ofChange frameOrderWrong)

/-- 'dioramalaw25.FrameNames': WHATEVER THE INPUT: true; the input reads as it did. -/
def frameNamesSpec : ChangeSpec := { name := "frameNames", fn := fun _ => fun
  | [] => { results := [.lit (.bool true)], args := [] }
  | _ => none }
def frameNamesRow : OpenClaim := { program := "ytibeoeooajelgaa", sum := "05a21b173cd4afa545e92ceac0ef09d862d728d12b8d881259b0b37a92ab7e59", func := "diorama/dioramalaw25.FrameNames", spec := "frameNames", unfollowed := true, recurses := true, apart := false }
def FrameNamesSaid : Prop := frameNamesRow.holds Try.pinned (OpenSpec.ofChange frameNamesSpec)

/-- ITS FALSE NEIGHBOUR: 'it returns false'. Refute it at one input. -/
def frameNamesWrong : ChangeSpec := { name := "frameNames", fn := fun _ => fun
  | [] => { results := [.lit (.bool false)], args := [] }
  | _ => none }
def FrameNamesWrongFalsely : Prop := frameNamesRow.holds Try.pinned (OpenSpec.ofChange frameNamesWrong)

/-- 'dioramalaw25.FrameDepths': WHATEVER THE INPUT: true; the input reads as it did. -/
def frameDepthsSpec : ChangeSpec := { name := "frameDepths", fn := fun _ => fun
  | [d1, d2, d3, d4, d5, d6] => { results := [.lit (.bool true)], args := [d1, d2, d3, d4, d5, d6] }
  | _ => none }
def frameDepthsRow : OpenClaim := { program := "ytibeoeooajelgaa", sum := "05a21b173cd4afa545e92ceac0ef09d862d728d12b8d881259b0b37a92ab7e59", func := "diorama/dioramalaw25.FrameDepths", spec := "frameDepths", unfollowed := true, recurses := true, apart := false }
def FrameDepthsSaid : Prop := frameDepthsRow.holds Try.pinned (OpenSpec.ofChange frameDepthsSpec)

/-- ITS FALSE NEIGHBOUR: 'it returns false'. Refute it at one input. -/
def frameDepthsWrong : ChangeSpec := { name := "frameDepths", fn := fun _ => fun
  | [d1, d2, d3, d4, d5, d6] => { results := [.lit (.bool false)], args := [d1, d2, d3, d4, d5, d6] }
  | _ => none }
def FrameDepthsWrongFalsely : Prop := frameDepthsRow.holds Try.pinned (OpenSpec.ofChange frameDepthsWrong)

/-- 'dioramalaw27.PyramidLeast': WHATEVER THE INPUT: true; the input reads as it did. -/
def pyramidLeastSpec : ChangeSpec := { name := "pyramidLeast", fn := fun _ => fun
  | [d1, d2] => { results := [.lit (.bool true)], args := [d1, d2] }
  | _ => none }
def pyramidLeastRow : OpenClaim := { program := "ytibeoeooajelgaa", sum := "05a21b173cd4afa545e92ceac0ef09d862d728d12b8d881259b0b37a92ab7e59", func := "diorama/dioramalaw27.PyramidLeast", spec := "pyramidLeast", unfollowed := true, recurses := true, apart := false }
def PyramidLeastSaid : Prop := pyramidLeastRow.holds Try.pinned (OpenSpec.ofChange pyramidLeastSpec)

/-- ITS FALSE NEIGHBOUR: 'it returns false'. Refute it at one input. -/
def pyramidLeastWrong : ChangeSpec := { name := "pyramidLeast", fn := fun _ => fun
  | [d1, d2] => { results := [.lit (.bool false)], args := [d1, d2] }
  | _ => none }
def PyramidLeastWrongFalsely : Prop := pyramidLeastRow.holds Try.pinned (OpenSpec.ofChange pyramidLeastWrong)

/-- 'dioramalaw27.PyramidNames': WHATEVER THE INPUT: true; the input reads as it did. -/
def pyramidNamesSpec : ChangeSpec := { name := "pyramidNames", fn := fun _ => fun
  | [] => { results := [.lit (.bool true)], args := [] }
  | _ => none }
def pyramidNamesRow : OpenClaim := { program := "ytibeoeooajelgaa", sum := "05a21b173cd4afa545e92ceac0ef09d862d728d12b8d881259b0b37a92ab7e59", func := "diorama/dioramalaw27.PyramidNames", spec := "pyramidNames", unfollowed := true, recurses := true, apart := false }
def PyramidNamesSaid : Prop := pyramidNamesRow.holds Try.pinned (OpenSpec.ofChange pyramidNamesSpec)

/-- ITS FALSE NEIGHBOUR: 'it returns false'. Refute it at one input. -/
def pyramidNamesWrong : ChangeSpec := { name := "pyramidNames", fn := fun _ => fun
  | [] => { results := [.lit (.bool false)], args := [] }
  | _ => none }
def PyramidNamesWrongFalsely : Prop := pyramidNamesRow.holds Try.pinned (OpenSpec.ofChange pyramidNamesWrong)

/-- 'dioramalaw27.PyramidHides': WHATEVER THE INPUT: true; the input reads as it did. -/
def pyramidHidesSpec : ChangeSpec := { name := "pyramidHides", fn := fun _ => fun
  | [d1, d2, d3, d4, d5, d6, d7, d8, d9] => { results := [.lit (.bool true)], args := [d1, d2, d3, d4, d5, d6, d7, d8, d9] }
  | _ => none }
def pyramidHidesRow : OpenClaim := { program := "ytibeoeooajelgaa", sum := "05a21b173cd4afa545e92ceac0ef09d862d728d12b8d881259b0b37a92ab7e59", func := "diorama/dioramalaw27.PyramidHides", spec := "pyramidHides", unfollowed := true, recurses := true, apart := false }
def PyramidHidesSaid : Prop := pyramidHidesRow.holds Try.pinned (OpenSpec.ofChange pyramidHidesSpec)

/-- ITS FALSE NEIGHBOUR: 'it returns false'. Refute it at one input. -/
def pyramidHidesWrong : ChangeSpec := { name := "pyramidHides", fn := fun _ => fun
  | [d1, d2, d3, d4, d5, d6, d7, d8, d9] => { results := [.lit (.bool false)], args := [d1, d2, d3, d4, d5, d6, d7, d8, d9] }
  | _ => none }
def PyramidHidesWrongFalsely : Prop := pyramidHidesRow.holds Try.pinned (OpenSpec.ofChange pyramidHidesWrong)

/- THE SECOND FORM. 'bulk': how many values and letters a reading holds, each counted each time it is reached (what is shared counts as often as it is met; a slice's spare places count too). A statement '..UptoSaid' is the law's where the arguments, and the package variables that the reading takes, are together of bulk at most 1048576: NARROWER than '..Said'. Prove '..Said' where nothing that the law and all that it calls make is longer than what came in: it says more and counts as full. Else prove '..UptoSaid'. A law counts once. -/
mutual
def uptoBulk {H : Type} : DataW H → Nat
  | .lit (.string bytes) => bytes.length + 1
  | .lit _ => 1
  | .nil => 1
  | .ptr d => uptoBulk d + 1
  | .slice elems spare => uptoBulkAll elems + uptoBulkAll spare + 1
  | .agg parts => uptoBulkAll parts + 1
  | .iface _ d => uptoBulk d + 1
  | .map entries => uptoBulkEntries entries + 1
  | .held _ => 1
def uptoBulkAll {H : Type} : List (DataW H) → Nat
  | [] => 0
  | d :: r => uptoBulk d + uptoBulkAll r
def uptoBulkEntries {H : Type} : List (Lit × DataW H) → Nat
  | [] => 0
  | x :: r => uptoBulkEntry x + uptoBulkEntries r
def uptoBulkEntry {H : Type} : Lit × DataW H → Nat
  | (.string bytes, d) => bytes.length + uptoBulk d + 1
  | (_, d) => uptoBulk d + 1
 end
def uptoSmall : (H : Type) → List (DataW H) → Bool := fun _ ds => decide (uptoBulkAll ds ≤ 1048576)
def OpenSpec.upto (s : _root_.Go.ChangeSpec) : _root_.Go.OpenSpec := { _root_.Go.OpenSpec.ofChange s with cond := some uptoSmall }

/-- 'dioramalaw25.FrameNews', WHERE WHAT IT READS IS OF BULK AT MOST 1048576: true; the input reads as it did. -/
def frameNewsUptoRow : OpenClaim := { program := "ytibeoeooajelgaa", sum := "05a21b173cd4afa545e92ceac0ef09d862d728d12b8d881259b0b37a92ab7e59", func := "diorama/dioramalaw25.FrameNews", spec := "frameNews", apart := false, narrowed := true }
def FrameNewsUptoSaid : Prop := frameNewsUptoRow.holds Try.pinned (OpenSpec.upto frameNewsSpec)

/-- 'dioramalaw25.FramePuts', WHERE WHAT IT READS IS OF BULK AT MOST 1048576: true; the input reads as it did. -/
def framePutsUptoRow : OpenClaim := { program := "ytibeoeooajelgaa", sum := "05a21b173cd4afa545e92ceac0ef09d862d728d12b8d881259b0b37a92ab7e59", func := "diorama/dioramalaw25.FramePuts", spec := "framePuts", unfollowed := true, recurses := true, apart := false, narrowed := true }
def FramePutsUptoSaid : Prop := framePutsUptoRow.holds Try.pinned (OpenSpec.upto framePutsSpec)

/-- 'dioramalaw25.FrameNearer', WHERE WHAT IT READS IS OF BULK AT MOST 1048576: true; the input reads as it did. -/
def frameNearerUptoRow : OpenClaim := { program := "ytibeoeooajelgaa", sum := "05a21b173cd4afa545e92ceac0ef09d862d728d12b8d881259b0b37a92ab7e59", func := "diorama/dioramalaw25.FrameNearer", spec := "frameNearer", apart := false, narrowed := true }
def FrameNearerUptoSaid : Prop := frameNearerUptoRow.holds Try.pinned (OpenSpec.upto frameNearerSpec)

/-- 'dioramalaw27.PyramidTells', WHERE WHAT IT READS IS OF BULK AT MOST 1048576: true; the input reads as it did. -/
def pyramidTellsUptoRow : OpenClaim := { program := "ytibeoeooajelgaa", sum := "05a21b173cd4afa545e92ceac0ef09d862d728d12b8d881259b0b37a92ab7e59", func := "diorama/dioramalaw27.PyramidTells", spec := "pyramidTells", unfollowed := true, recurses := true, apart := false, narrowed := true }
def PyramidTellsUptoSaid : Prop := pyramidTellsUptoRow.holds Try.pinned (OpenSpec.upto pyramidTellsSpec)

/-- 'dioramalaw25.FrameOrder', WHERE WHAT IT READS IS OF BULK AT MOST 1048576: true; the input reads as it did. -/
def frameOrderUptoRow : OpenClaim := { program := "ytibeoeooajelgaa", sum := "05a21b173cd4afa545e92ceac0ef09d862d728d12b8d881259b0b37a92ab7e59", func := "diorama/dioramalaw25.FrameOrder", spec := "frameOrder", apart := false, narrowed := true }
def FrameOrderUptoSaid : Prop := frameOrderUptoRow.holds Try.pinned (OpenSpec.upto frameOrderSpec)

/-- 'dioramalaw25.FrameNames', WHERE WHAT IT READS IS OF BULK AT MOST 1048576: true; the input reads as it did. -/
def frameNamesUptoRow : OpenClaim := { program := "ytibeoeooajelgaa", sum := "05a21b173cd4afa545e92ceac0ef09d862d728d12b8d881259b0b37a92ab7e59", func := "diorama/dioramalaw25.FrameNames", spec := "frameNames", unfollowed := true, recurses := true, apart := false, narrowed := true }
def FrameNamesUptoSaid : Prop := frameNamesUptoRow.holds Try.pinned (OpenSpec.upto frameNamesSpec)

/-- 'dioramalaw25.FrameDepths', WHERE WHAT IT READS IS OF BULK AT MOST 1048576: true; the input reads as it did. -/
def frameDepthsUptoRow : OpenClaim := { program := "ytibeoeooajelgaa", sum := "05a21b173cd4afa545e92ceac0ef09d862d728d12b8d881259b0b37a92ab7e59", func := "diorama/dioramalaw25.FrameDepths", spec := "frameDepths", unfollowed := true, recurses := true, apart := false, narrowed := true }
def FrameDepthsUptoSaid : Prop := frameDepthsUptoRow.holds Try.pinned (OpenSpec.upto frameDepthsSpec)

/-- 'dioramalaw27.PyramidLeast', WHERE WHAT IT READS IS OF BULK AT MOST 1048576: true; the input reads as it did. -/
def pyramidLeastUptoRow : OpenClaim := { program := "ytibeoeooajelgaa", sum := "05a21b173cd4afa545e92ceac0ef09d862d728d12b8d881259b0b37a92ab7e59", func := "diorama/dioramalaw27.PyramidLeast", spec := "pyramidLeast", unfollowed := true, recurses := true, apart := false, narrowed := true }
def PyramidLeastUptoSaid : Prop := pyramidLeastUptoRow.holds Try.pinned (OpenSpec.upto pyramidLeastSpec)

/-- 'dioramalaw27.PyramidNames', WHERE WHAT IT READS IS OF BULK AT MOST 1048576: true; the input reads as it did. -/
def pyramidNamesUptoRow : OpenClaim := { program := "ytibeoeooajelgaa", sum := "05a21b173cd4afa545e92ceac0ef09d862d728d12b8d881259b0b37a92ab7e59", func := "diorama/dioramalaw27.PyramidNames", spec := "pyramidNames", unfollowed := true, recurses := true, apart := false, narrowed := true }
def PyramidNamesUptoSaid : Prop := pyramidNamesUptoRow.holds Try.pinned (OpenSpec.upto pyramidNamesSpec)

/-- 'dioramalaw27.PyramidHides', WHERE WHAT IT READS IS OF BULK AT MOST 1048576: true; the input reads as it did. -/
def pyramidHidesUptoRow : OpenClaim := { program := "ytibeoeooajelgaa", sum := "05a21b173cd4afa545e92ceac0ef09d862d728d12b8d881259b0b37a92ab7e59", func := "diorama/dioramalaw27.PyramidHides", spec := "pyramidHides", unfollowed := true, recurses := true, apart := false, narrowed := true }
def PyramidHidesUptoSaid : Prop := pyramidHidesUptoRow.holds Try.pinned (OpenSpec.upto pyramidHidesSpec)

end Rows
end Go.Proofs.Ytibeoeooajelgaa
