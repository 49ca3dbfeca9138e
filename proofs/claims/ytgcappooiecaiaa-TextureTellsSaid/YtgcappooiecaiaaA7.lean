/- TextureTells from its arguments. -/
import Derived.Test.YtgcappooiecaiaaA5
import Derived.Test.YtgcappooiecaiaaW24
namespace Go.Proofs.Ytgcappooiecaiaa
open Go.ChangeShapes Go.WideShapes Go.RowKit
set_option linter.unusedVariables false
theorem textureTells_arg (v0 v1 v2 v3 : Value) (w : World) (h0 : Arg Try.prog w 39 v0) (h1 : Arg Try.prog w 30 v1) (h2 : Arg Try.prog w 3 v2) (h3 : Arg Try.prog w 3 v3) :
    Calls Try.prog 9 #[v0, v1, v2, v3] w fun e w' => e = .returned (.bool true) ∧ Below w.heap.size w w' := by
  obtain ⟨L, m, lc, D, rfl, hm, hl, hD, _⟩ := h0.textures
  obtain ⟨W, H, a, n, c, f, rfl, _, _, hnc, hc, hp, hB⟩ := h1.texture
  obtain ⟨u, rfl, _⟩ := h2.int Try.underlying3
  obtain ⟨v, rfl, _⟩ := h3.int Try.underlying3
  exact textureTells_walk L m lc D W H a n c f u v w hl hp hm (by omega) hD hB
end Go.Proofs.Ytgcappooiecaiaa
