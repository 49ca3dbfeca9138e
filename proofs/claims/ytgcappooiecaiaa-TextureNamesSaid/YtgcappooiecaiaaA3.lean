/- TextureNames has no arguments. -/
import Derived.Test.YtgcappooiecaiaaArg
import Derived.Test.YtgcappooiecaiaaW10
namespace Go.Proofs.Ytgcappooiecaiaa
open Go.RowKit
theorem textureNames_arg (w : World) : Calls Try.prog 8 #[] w fun e w' => e = .returned (.bool true) ∧ Below w.heap.size w w' := textureNames_walk w
end Go.Proofs.Ytgcappooiecaiaa
