/- pyramid: PyramidTells at its arguments. -/
import Derived.Test.YtibeoeooajelgaaY17
namespace Go.Proofs.Ytibeoeooajelgaa
open Go.RowKit
set_option linter.unusedVariables false
theorem FD.fits_of {f : FD} (h : ¬ f.Great) : f.Fits := by
  unfold FD.Great at h
  exact ⟨by omega, by omega, by omega, by omega⟩
theorem pyramidTells_arg (v0 v1 v2 : Value) (w : World) (h0 : Arg Try.prog w 29 v0) (h1 : Arg Try.prog w 51 v1) (h2 : Arg Try.prog w 55 v2) :
    Calls Try.prog 6 #[v0, v1, v2] w fun e w' => e = .returned (.bool true) ∧ Below w.heap.size w w' := by
  obtain ⟨p, f, rfl, hok, hbd⟩ := arg_frame h0
  obtain ⟨q, d, rfl, hq, hn⟩ := arg_pyr h1
  obtain ⟨r, D, rfl⟩ := arg_shade h2
  exact pyramidTells_walk p f q d r D w hok hbd.1 FD.fits_of hq hn
end Go.Proofs.Ytibeoeooajelgaa
