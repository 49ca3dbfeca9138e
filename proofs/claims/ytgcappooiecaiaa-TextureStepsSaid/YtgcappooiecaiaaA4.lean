/- TextureSteps from its arguments. -/
import Derived.Test.YtgcappooiecaiaaArg
import Derived.Test.YtgcappooiecaiaaW11
namespace Go.Proofs.Ytgcappooiecaiaa
open Go.RowKit
set_option linter.unusedVariables false
theorem textureSteps_arg (v0 v1 v2 v3 v4 v5 : Value) (w : World) (h0 : Arg Try.prog w 3 v0) (h1 : Arg Try.prog w 3 v1) (h2 : Arg Try.prog w 3 v2) (h3 : Arg Try.prog w 3 v3) (h4 : Arg Try.prog w 3 v4) (h5 : Arg Try.prog w 3 v5) :
    Calls Try.prog 7 #[v0, v1, v2, v3, v4, v5] w fun e w' => e = .returned (.bool true) ∧ Below w.heap.size w w' := by
  obtain ⟨x0, rfl, _⟩ := h0.int Try.underlying3
  obtain ⟨x1, rfl, _⟩ := h1.int Try.underlying3
  obtain ⟨x2, rfl, _⟩ := h2.int Try.underlying3
  obtain ⟨x3, rfl, _⟩ := h3.int Try.underlying3
  obtain ⟨x4, rfl, _⟩ := h4.int Try.underlying3
  obtain ⟨x5, rfl, _⟩ := h5.int Try.underlying3
  by_cases h : (1 ≤ x0 ∧ x0 ≤ 16) ∧ (1 ≤ x1 ∧ x1 ≤ 16)
  · obtain ⟨a, rfl⟩ := Int.eq_ofNat_of_zero_le (a := x0) (by omega)
    obtain ⟨b, rfl⟩ := Int.eq_ofNat_of_zero_le (a := x1) (by omega)
    exact steps_in a b x2 x3 x4 x5 w h.1 h.2
  · exact steps_out x0 x1 x2 x3 x4 x5 w h
end Go.Proofs.Ytgcappooiecaiaa
