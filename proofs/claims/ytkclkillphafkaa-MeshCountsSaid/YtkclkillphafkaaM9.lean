/- MeshCounts from its argument. -/
import Derived.Test.YtkclkillphafkaaM6
namespace Go.Proofs.Ytkclkillphafkaa
open Go.RowKit
set_option linter.unusedVariables false
theorem meshCounts_arg (v0 : Value) (w : World) (h0 : Arg Try.prog w 24 v0) : Calls Try.prog 4 #[v0] w fun e w' => e = .returned (.bool true) ∧ Below w.heap.size w w' := by
  obtain ⟨k, A, n, c, l, rfl, hk, _, _, hs⟩ := arg_prim h0
  exact meshCounts_walk k hk.1 n A c l w hs
end Go.Proofs.Ytkclkillphafkaa
