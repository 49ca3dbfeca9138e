/- ShadePaints from its arguments. -/
import Derived.Test.YtgcappooiecaiaaA5
import Derived.Test.YtgcappooiecaiaaW22
namespace Go.Proofs.Ytgcappooiecaiaa
open Go.ChangeShapes Go.WideShapes Go.RowKit
set_option linter.unusedVariables false
theorem shadePaints_arg (v0 v1 v2 v3 v4 : Value) (w : World) (h0 : Arg Try.prog w 49 v0) (h1 : Arg Try.prog w 39 v1) (h2 : Arg Try.prog w 3 v2) (h3 : Arg Try.prog w 3 v3) (h4 : Arg Try.prog w 3 v4) :
    Calls Try.prog 10 #[v0, v1, v2, v3, v4] w fun e w' => e = .returned (.bool true) ∧ Below w.heap.size w w' := by
  obtain ⟨cc, tx, cu, bi, bl, bn, rfl, hb⟩ := h0.look
  obtain ⟨A, m, c, D, rfl, hm, hl, hD, hB⟩ := h1.textures
  obtain ⟨t, rfl, _⟩ := h2.int Try.underlying3
  obtain ⟨u, rfl, _⟩ := h3.int Try.underlying3
  obtain ⟨v, rfl, _⟩ := h4.int Try.underlying3
  exact shadePaints_walk A m c D cc tx cu bi bl bn t u v w hl hm hD hb hB
end Go.Proofs.Ytgcappooiecaiaa
