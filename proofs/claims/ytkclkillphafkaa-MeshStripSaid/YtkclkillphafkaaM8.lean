/- MeshStrip from its argument. -/
import Derived.Test.YtkclkillphafkaaM7
namespace Go.Proofs.Ytkclkillphafkaa
open Go.RowKit
set_option linter.unusedVariables false
theorem meshStrip_arg (v0 : Value) (w : World) (h0 : Arg Try.prog w 22 v0) : Calls Try.prog 5 #[v0] w fun e w' => e = .returned (.bool true) ∧ Below w.heap.size w w' := by
  obtain ⟨A, n, c, l, rfl, _, _, hs⟩ := arg_ints Try.underlying22 Try.underlying3 cells3 h0
  exact meshStrip_walk n A c l w hs
end Go.Proofs.Ytkclkillphafkaa
