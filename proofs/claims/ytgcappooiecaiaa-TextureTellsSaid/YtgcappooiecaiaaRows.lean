/-
  No cell of these rows narrows 'for every input' (looked for: loops, veiled, ifaces, maps, wideKeys, modest, calm, conditions, laid).
  DERIVED. THE GIVEN ROWS OF THIS SEAT. 10 by the template 'for every input the law returns true; each argument reads behind the call as it read before'; 0 by the template 'total and deterministic' (their statements: YtgcappooiecaiaaTotals.lean).
  GIVEN WITH THE SEED: the statements are not yours to turn. If you find one false, say at which input.
  Laid BY PROGRAM, IN A SANDBOX (cutbox-rows.mjs): the forced cells as the released guide's own fill.sh prints them over the translation 8a9f42628a7dd56e… (all of the seat's roots in one cut). By AI agents, Wed Nov 11 2026. No macro, syntax, notation, axiom, sorry.
-/
import Derived.Test.YtgcappooiecaiaaChecked
import GoSem.Claim
import GoSem.ClaimJoined
import GoSem.ClaimMapViews
import Derived.JoinedTies
import Derived.KernelRfl
namespace Go.Proofs.Ytgcappooiecaiaa
/- THE CELL 'sum', in the pinned program and in every row, IS THE sha256 OF THE DUMP (.gsa) THAT YtgcappooiecaiaaProg.lean LOADS. Nothing in Lean hashes anything: it is a label: what it is worth is what the hold of that sum in a sandbox is worth. -/
noncomputable def Try.pinned : Pinned := { name := "ytgcappooiecaiaa", sum := "8a9f42628a7dd56e296d33b0c3f06e9dd8a16a696c8a1f17400ca8a70dd9a310", checked := Try.checked }
namespace Rows
def none {H : Type} : Left H := { results := [], args := [] }

/-- 'dioramalaw23.ShadeColors': WHATEVER THE INPUT: true; the input reads as it did. -/
def shadeColorsSpec : ChangeSpec := { name := "shadeColors", fn := fun _ => fun
  | [d1, d2] => { results := [.lit (.bool true)], args := [d1, d2] }
  | _ => none }
def shadeColorsRow : OpenClaim := { program := "ytgcappooiecaiaa", sum := "8a9f42628a7dd56e296d33b0c3f06e9dd8a16a696c8a1f17400ca8a70dd9a310", func := "diorama/dioramalaw23.ShadeColors", spec := "shadeColors", unfollowed := true, recurses := true, apart := false }
def ShadeColorsSaid : Prop := shadeColorsRow.holds Try.pinned (OpenSpec.ofChange shadeColorsSpec)

/-- ITS FALSE NEIGHBOUR: 'it returns false'. Refute it at one input. -/
def shadeColorsWrong : ChangeSpec := { name := "shadeColors", fn := fun _ => fun
  | [d1, d2] => { results := [.lit (.bool false)], args := [d1, d2] }
  | _ => none }
def ShadeColorsWrongFalsely : Prop := shadeColorsRow.holds Try.pinned (OpenSpec.ofChange shadeColorsWrong)

/-- 'dioramalaw23.ShadeMixes': WHATEVER THE INPUT: true; the input reads as it did. -/
def shadeMixesSpec : ChangeSpec := { name := "shadeMixes", fn := fun _ => fun
  | [d1, d2] => { results := [.lit (.bool true)], args := [d1, d2] }
  | _ => none }
def shadeMixesRow : OpenClaim := { program := "ytgcappooiecaiaa", sum := "8a9f42628a7dd56e296d33b0c3f06e9dd8a16a696c8a1f17400ca8a70dd9a310", func := "diorama/dioramalaw23.ShadeMixes", spec := "shadeMixes", unfollowed := true, recurses := true, apart := false }
def ShadeMixesSaid : Prop := shadeMixesRow.holds Try.pinned (OpenSpec.ofChange shadeMixesSpec)

/-- ITS FALSE NEIGHBOUR: 'it returns false'. Refute it at one input. -/
def shadeMixesWrong : ChangeSpec := { name := "shadeMixes", fn := fun _ => fun
  | [d1, d2] => { results := [.lit (.bool false)], args := [d1, d2] }
  | _ => none }
def ShadeMixesWrongFalsely : Prop := shadeMixesRow.holds Try.pinned (OpenSpec.ofChange shadeMixesWrong)

/-- 'dioramalaw23.ShadeOvers': WHATEVER THE INPUT: true; the input reads as it did. -/
def shadeOversSpec : ChangeSpec := { name := "shadeOvers", fn := fun _ => fun
  | [d1, d2] => { results := [.lit (.bool true)], args := [d1, d2] }
  | _ => none }
def shadeOversRow : OpenClaim := { program := "ytgcappooiecaiaa", sum := "8a9f42628a7dd56e296d33b0c3f06e9dd8a16a696c8a1f17400ca8a70dd9a310", func := "diorama/dioramalaw23.ShadeOvers", spec := "shadeOvers", unfollowed := true, recurses := true, apart := false }
def ShadeOversSaid : Prop := shadeOversRow.holds Try.pinned (OpenSpec.ofChange shadeOversSpec)

/-- ITS FALSE NEIGHBOUR: 'it returns false'. Refute it at one input. -/
def shadeOversWrong : ChangeSpec := { name := "shadeOvers", fn := fun _ => fun
  | [d1, d2] => { results := [.lit (.bool false)], args := [d1, d2] }
  | _ => none }
def ShadeOversWrongFalsely : Prop := shadeOversRow.holds Try.pinned (OpenSpec.ofChange shadeOversWrong)

/-- 'dioramalaw09.TextureEach': WHATEVER THE INPUT: true; the input reads as it did. -/
def textureEachSpec : ChangeSpec := { name := "textureEach", fn := fun _ => fun
  | [d1, d2, d3] => { results := [.lit (.bool true)], args := [d1, d2, d3] }
  | _ => none }
def textureEachRow : OpenClaim := { program := "ytgcappooiecaiaa", sum := "8a9f42628a7dd56e296d33b0c3f06e9dd8a16a696c8a1f17400ca8a70dd9a310", func := "diorama/dioramalaw09.TextureEach", spec := "textureEach", apart := false }
def TextureEachSaid : Prop := textureEachRow.holds Try.pinned (OpenSpec.ofChange textureEachSpec)

/-- ITS FALSE NEIGHBOUR: 'it returns false'. Refute it at one input. -/
def textureEachWrong : ChangeSpec := { name := "textureEach", fn := fun _ => fun
  | [d1, d2, d3] => { results := [.lit (.bool false)], args := [d1, d2, d3] }
  | _ => none }
def TextureEachWrongFalsely : Prop := textureEachRow.holds Try.pinned (OpenSpec.ofChange textureEachWrong)

/-- 'dioramalaw09.TextureSteps': WHATEVER THE INPUT: true; the input reads as it did. -/
def textureStepsSpec : ChangeSpec := { name := "textureSteps", fn := fun _ => fun
  | [d1, d2, d3, d4, d5, d6] => { results := [.lit (.bool true)], args := [d1, d2, d3, d4, d5, d6] }
  | _ => none }
def textureStepsRow : OpenClaim := { program := "ytgcappooiecaiaa", sum := "8a9f42628a7dd56e296d33b0c3f06e9dd8a16a696c8a1f17400ca8a70dd9a310", func := "diorama/dioramalaw09.TextureSteps", spec := "textureSteps", apart := false }
def TextureStepsSaid : Prop := textureStepsRow.holds Try.pinned (OpenSpec.ofChange textureStepsSpec)

/-- ITS FALSE NEIGHBOUR: 'it returns false'. Refute it at one input. -/
def textureStepsWrong : ChangeSpec := { name := "textureSteps", fn := fun _ => fun
  | [d1, d2, d3, d4, d5, d6] => { results := [.lit (.bool false)], args := [d1, d2, d3, d4, d5, d6] }
  | _ => none }
def TextureStepsWrongFalsely : Prop := textureStepsRow.holds Try.pinned (OpenSpec.ofChange textureStepsWrong)

/-- 'dioramalaw09.TextureNames': WHATEVER THE INPUT: true; the input reads as it did. -/
def textureNamesSpec : ChangeSpec := { name := "textureNames", fn := fun _ => fun
  | [] => { results := [.lit (.bool true)], args := [] }
  | _ => none }
def textureNamesRow : OpenClaim := { program := "ytgcappooiecaiaa", sum := "8a9f42628a7dd56e296d33b0c3f06e9dd8a16a696c8a1f17400ca8a70dd9a310", func := "diorama/dioramalaw09.TextureNames", spec := "textureNames", apart := false }
def TextureNamesSaid : Prop := textureNamesRow.holds Try.pinned (OpenSpec.ofChange textureNamesSpec)

/-- ITS FALSE NEIGHBOUR: 'it returns false'. Refute it at one input. -/
def textureNamesWrong : ChangeSpec := { name := "textureNames", fn := fun _ => fun
  | [] => { results := [.lit (.bool false)], args := [] }
  | _ => none }
def TextureNamesWrongFalsely : Prop := textureNamesRow.holds Try.pinned (OpenSpec.ofChange textureNamesWrong)

/-- 'dioramalaw09.TextureTells': WHATEVER THE INPUT: true; the input reads as it did. -/
def textureTellsSpec : ChangeSpec := { name := "textureTells", fn := fun _ => fun
  | [d1, d2, d3, d4] => { results := [.lit (.bool true)], args := [d1, d2, d3, d4] }
  | _ => none }
def textureTellsRow : OpenClaim := { program := "ytgcappooiecaiaa", sum := "8a9f42628a7dd56e296d33b0c3f06e9dd8a16a696c8a1f17400ca8a70dd9a310", func := "diorama/dioramalaw09.TextureTells", spec := "textureTells", apart := false }
def TextureTellsSaid : Prop := textureTellsRow.holds Try.pinned (OpenSpec.ofChange textureTellsSpec)

/-- ITS FALSE NEIGHBOUR: 'it returns false'. Refute it at one input. -/
def textureTellsWrong : ChangeSpec := { name := "textureTells", fn := fun _ => fun
  | [d1, d2, d3, d4] => { results := [.lit (.bool false)], args := [d1, d2, d3, d4] }
  | _ => none }
def TextureTellsWrongFalsely : Prop := textureTellsRow.holds Try.pinned (OpenSpec.ofChange textureTellsWrong)

/-- 'dioramalaw23.ShadePaints': WHATEVER THE INPUT: true; the input reads as it did. -/
def shadePaintsSpec : ChangeSpec := { name := "shadePaints", fn := fun _ => fun
  | [d1, d2, d3, d4, d5] => { results := [.lit (.bool true)], args := [d1, d2, d3, d4, d5] }
  | _ => none }
def shadePaintsRow : OpenClaim := { program := "ytgcappooiecaiaa", sum := "8a9f42628a7dd56e296d33b0c3f06e9dd8a16a696c8a1f17400ca8a70dd9a310", func := "diorama/dioramalaw23.ShadePaints", spec := "shadePaints", apart := false }
def ShadePaintsSaid : Prop := shadePaintsRow.holds Try.pinned (OpenSpec.ofChange shadePaintsSpec)

/-- ITS FALSE NEIGHBOUR: 'it returns false'. Refute it at one input. -/
def shadePaintsWrong : ChangeSpec := { name := "shadePaints", fn := fun _ => fun
  | [d1, d2, d3, d4, d5] => { results := [.lit (.bool false)], args := [d1, d2, d3, d4, d5] }
  | _ => none }
def ShadePaintsWrongFalsely : Prop := shadePaintsRow.holds Try.pinned (OpenSpec.ofChange shadePaintsWrong)

/-- 'dioramalaw23.ShadeNames': WHATEVER THE INPUT: true; the input reads as it did. -/
def shadeNamesSpec : ChangeSpec := { name := "shadeNames", fn := fun _ => fun
  | [] => { results := [.lit (.bool true)], args := [] }
  | _ => none }
def shadeNamesRow : OpenClaim := { program := "ytgcappooiecaiaa", sum := "8a9f42628a7dd56e296d33b0c3f06e9dd8a16a696c8a1f17400ca8a70dd9a310", func := "diorama/dioramalaw23.ShadeNames", spec := "shadeNames", unfollowed := true, recurses := true, apart := false }
def ShadeNamesSaid : Prop := shadeNamesRow.holds Try.pinned (OpenSpec.ofChange shadeNamesSpec)

/-- ITS FALSE NEIGHBOUR: 'it returns false'. Refute it at one input. -/
def shadeNamesWrong : ChangeSpec := { name := "shadeNames", fn := fun _ => fun
  | [] => { results := [.lit (.bool false)], args := [] }
  | _ => none }
def ShadeNamesWrongFalsely : Prop := shadeNamesRow.holds Try.pinned (OpenSpec.ofChange shadeNamesWrong)

/-- 'dioramalaw23.ShadeTexels': WHATEVER THE INPUT: true; the input reads as it did. -/
def shadeTexelsSpec : ChangeSpec := { name := "shadeTexels", fn := fun _ => fun
  | [d1, d2, d3, d4] => { results := [.lit (.bool true)], args := [d1, d2, d3, d4] }
  | _ => none }
def shadeTexelsRow : OpenClaim := { program := "ytgcappooiecaiaa", sum := "8a9f42628a7dd56e296d33b0c3f06e9dd8a16a696c8a1f17400ca8a70dd9a310", func := "diorama/dioramalaw23.ShadeTexels", spec := "shadeTexels", unfollowed := true, recurses := true, apart := false }
def ShadeTexelsSaid : Prop := shadeTexelsRow.holds Try.pinned (OpenSpec.ofChange shadeTexelsSpec)

/-- ITS FALSE NEIGHBOUR: 'it returns false'. Refute it at one input. -/
def shadeTexelsWrong : ChangeSpec := { name := "shadeTexels", fn := fun _ => fun
  | [d1, d2, d3, d4] => { results := [.lit (.bool false)], args := [d1, d2, d3, d4] }
  | _ => none }
def ShadeTexelsWrongFalsely : Prop := shadeTexelsRow.holds Try.pinned (OpenSpec.ofChange shadeTexelsWrong)

/- THE SECOND FORM. 'bulk': how many values and letters a reading holds, each counted each time it is reached (what is shared counts as often as it is met; a slice's spare places count too). A statement '..UptoSaid' is the law's where the arguments, and the package variables that the reading takes, are together of bulk at most 1048576: NARROWER than '..Said'. Prove '..Said' where nothing that the law and all that it calls make is longer than what came in: it says more and counts as full. Else prove '..UptoSaid'. A law counts once. -/
mutual
def uptoBulk {H : Type} : DataW H → Nat
  | .lit (.string bytes) => bytes.length + 1
  | .lit _ => 1
  | .nil => 1
  | .ptr d => uptoBulk d + 1
  | .slice elems spare => uptoBulkAll elems + uptoBulkAll spare + 1
  | .agg parts => uptoBulkAll parts + 1
  | .iface _ d => uptoBulk d + 1
  | .map entries => uptoBulkEntries entries + 1
  | .held _ => 1
def uptoBulkAll {H : Type} : List (DataW H) → Nat
  | [] => 0
  | d :: r => uptoBulk d + uptoBulkAll r
def uptoBulkEntries {H : Type} : List (Lit × DataW H) → Nat
  | [] => 0
  | x :: r => uptoBulkEntry x + uptoBulkEntries r
def uptoBulkEntry {H : Type} : Lit × DataW H → Nat
  | (.string bytes, d) => bytes.length + uptoBulk d + 1
  | (_, d) => uptoBulk d + 1
 end
def uptoSmall : (H : Type) → List (DataW H) → Bool := fun _ ds => decide (uptoBulkAll ds ≤ 1048576)
def OpenSpec.upto (s : _root_.Go.ChangeSpec) : _root_.Go.OpenSpec := { _root_.Go.OpenSpec.ofChange s with cond := some uptoSmall }

/-- 'dioramalaw23.ShadeColors', WHERE WHAT IT READS IS OF BULK AT MOST 1048576: true; the input reads as it did. -/
def shadeColorsUptoRow : OpenClaim := { program := "ytgcappooiecaiaa", sum := "8a9f42628a7dd56e296d33b0c3f06e9dd8a16a696c8a1f17400ca8a70dd9a310", func := "diorama/dioramalaw23.ShadeColors", spec := "shadeColors", unfollowed := true, recurses := true, apart := false, narrowed := true }
def ShadeColorsUptoSaid : Prop := shadeColorsUptoRow.holds Try.pinned (OpenSpec.upto shadeColorsSpec)

/-- 'dioramalaw23.ShadeMixes', WHERE WHAT IT READS IS OF BULK AT MOST 1048576: true; the input reads as it did. -/
def shadeMixesUptoRow : OpenClaim := { program := "ytgcappooiecaiaa", sum := "8a9f42628a7dd56e296d33b0c3f06e9dd8a16a696c8a1f17400ca8a70dd9a310", func := "diorama/dioramalaw23.ShadeMixes", spec := "shadeMixes", unfollowed := true, recurses := true, apart := false, narrowed := true }
def ShadeMixesUptoSaid : Prop := shadeMixesUptoRow.holds Try.pinned (OpenSpec.upto shadeMixesSpec)

/-- 'dioramalaw23.ShadeOvers', WHERE WHAT IT READS IS OF BULK AT MOST 1048576: true; the input reads as it did. -/
def shadeOversUptoRow : OpenClaim := { program := "ytgcappooiecaiaa", sum := "8a9f42628a7dd56e296d33b0c3f06e9dd8a16a696c8a1f17400ca8a70dd9a310", func := "diorama/dioramalaw23.ShadeOvers", spec := "shadeOvers", unfollowed := true, recurses := true, apart := false, narrowed := true }
def ShadeOversUptoSaid : Prop := shadeOversUptoRow.holds Try.pinned (OpenSpec.upto shadeOversSpec)

/-- 'dioramalaw09.TextureEach', WHERE WHAT IT READS IS OF BULK AT MOST 1048576: true; the input reads as it did. -/
def textureEachUptoRow : OpenClaim := { program := "ytgcappooiecaiaa", sum := "8a9f42628a7dd56e296d33b0c3f06e9dd8a16a696c8a1f17400ca8a70dd9a310", func := "diorama/dioramalaw09.TextureEach", spec := "textureEach", apart := false, narrowed := true }
def TextureEachUptoSaid : Prop := textureEachUptoRow.holds Try.pinned (OpenSpec.upto textureEachSpec)

/-- 'dioramalaw09.TextureSteps', WHERE WHAT IT READS IS OF BULK AT MOST 1048576: true; the input reads as it did. -/
def textureStepsUptoRow : OpenClaim := { program := "ytgcappooiecaiaa", sum := "8a9f42628a7dd56e296d33b0c3f06e9dd8a16a696c8a1f17400ca8a70dd9a310", func := "diorama/dioramalaw09.TextureSteps", spec := "textureSteps", apart := false, narrowed := true }
def TextureStepsUptoSaid : Prop := textureStepsUptoRow.holds Try.pinned (OpenSpec.upto textureStepsSpec)

/-- 'dioramalaw09.TextureNames', WHERE WHAT IT READS IS OF BULK AT MOST 1048576: true; the input reads as it did. -/
def textureNamesUptoRow : OpenClaim := { program := "ytgcappooiecaiaa", sum := "8a9f42628a7dd56e296d33b0c3f06e9dd8a16a696c8a1f17400ca8a70dd9a310", func := "diorama/dioramalaw09.TextureNames", spec := "textureNames", apart := false, narrowed := true }
def TextureNamesUptoSaid : Prop := textureNamesUptoRow.holds Try.pinned (OpenSpec.upto textureNamesSpec)

/-- 'dioramalaw09.TextureTells', WHERE WHAT IT READS IS OF BULK AT MOST 1048576: true; the input reads as it did. -/
def textureTellsUptoRow : OpenClaim := { program := "ytgcappooiecaiaa", sum := "8a9f42628a7dd56e296d33b0c3f06e9dd8a16a696c8a1f17400ca8a70dd9a310", func := "diorama/dioramalaw09.TextureTells", spec := "textureTells", apart := false, narrowed := true }
def TextureTellsUptoSaid : Prop := textureTellsUptoRow.holds Try.pinned (OpenSpec.upto textureTellsSpec)

/-- 'dioramalaw23.ShadePaints', WHERE WHAT IT READS IS OF BULK AT MOST 1048576: true; the input reads as it did. -/
def shadePaintsUptoRow : OpenClaim := { program := "ytgcappooiecaiaa", sum := "8a9f42628a7dd56e296d33b0c3f06e9dd8a16a696c8a1f17400ca8a70dd9a310", func := "diorama/dioramalaw23.ShadePaints", spec := "shadePaints", apart := false, narrowed := true }
def ShadePaintsUptoSaid : Prop := shadePaintsUptoRow.holds Try.pinned (OpenSpec.upto shadePaintsSpec)

/-- 'dioramalaw23.ShadeNames', WHERE WHAT IT READS IS OF BULK AT MOST 1048576: true; the input reads as it did. -/
def shadeNamesUptoRow : OpenClaim := { program := "ytgcappooiecaiaa", sum := "8a9f42628a7dd56e296d33b0c3f06e9dd8a16a696c8a1f17400ca8a70dd9a310", func := "diorama/dioramalaw23.ShadeNames", spec := "shadeNames", unfollowed := true, recurses := true, apart := false, narrowed := true }
def ShadeNamesUptoSaid : Prop := shadeNamesUptoRow.holds Try.pinned (OpenSpec.upto shadeNamesSpec)

/-- 'dioramalaw23.ShadeTexels', WHERE WHAT IT READS IS OF BULK AT MOST 1048576: true; the input reads as it did. -/
def shadeTexelsUptoRow : OpenClaim := { program := "ytgcappooiecaiaa", sum := "8a9f42628a7dd56e296d33b0c3f06e9dd8a16a696c8a1f17400ca8a70dd9a310", func := "diorama/dioramalaw23.ShadeTexels", spec := "shadeTexels", unfollowed := true, recurses := true, apart := false, narrowed := true }
def ShadeTexelsUptoSaid : Prop := shadeTexelsUptoRow.holds Try.pinned (OpenSpec.upto shadeTexelsSpec)

end Rows
end Go.Proofs.Ytgcappooiecaiaa
