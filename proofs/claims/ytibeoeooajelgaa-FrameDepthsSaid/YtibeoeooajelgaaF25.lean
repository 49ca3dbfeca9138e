/- FrameDepths: the cases together; how its arguments read. -/
import Derived.Test.YtibeoeooajelgaaF27
import Derived.Test.YtibeoeooajelgaaF28
import Derived.Test.YtibeoeooajelgaaF29
import Derived.Test.YtibeoeooajelgaaF30
import Derived.Test.YtibeoeooajelgaaF21
import Derived.Test.YtibeoeooajelgaaF22
import Derived.Test.YtibeoeooajelgaaF23
import Derived.Test.YtibeoeooajelgaaF24
namespace Go.Proofs.Ytibeoeooajelgaa
open Go.RowKit
theorem frameDepths_arg (v0 v1 v2 v3 v4 v5 : Value) (w : World) (h0 : Arg Try.prog w 29 v0) (h1 : Arg Try.prog w 3 v1) (h2 : Arg Try.prog w 3 v2) (h3 : Arg Try.prog w 25 v3) (h4 : Arg Try.prog w 3 v4) (h5 : Arg Try.prog w 23 v5) :
    Calls Try.prog 9 #[v0, v1, v2, v3, v4, v5] w fun e w' => e = .returned (.bool true) ∧ Below w.heap.size w w' := by
  obtain ⟨p, f, rfl, hok, hbd⟩ := arg_frame h0
  obtain ⟨x, rfl⟩ := arg_int h1
  obtain ⟨y, rfl⟩ := arg_int h2
  obtain ⟨d, i, t, b, u, s, rfl⟩ := arg_fg h3
  obtain ⟨e, rfl⟩ := arg_int h4
  obtain ⟨c, rfl⟩ := arg_col h5
  by_cases hin : f.In x y
  rotate_left
  · by_cases h0 : 0 ≤ x
    rotate_left
    · exact depths_27 p f x y d i t b u s e c w hok hbd.1 hin h0
    by_cases h1 : x < f.W
    rotate_left
    · exact depths_28 p f x y d i t b u s e c w hok hbd.1 hin h0 h1
    by_cases h2 : 0 ≤ y
    rotate_left
    · exact depths_29 p f x y d i t b u s e c w hok hbd.1 hin h0 h1 h2
    by_cases h3 : y < f.H
    rotate_left
    · exact depths_30 p f x y d i t b u s e c w hok hbd.1 hin h0 h1 h2 h3
    exact absurd ⟨h0, h1, h2, h3⟩ hin
  by_cases hs : SomeP d i t <;> by_cases hd : DeepP e
  · exact depths_21 p f x y d i t b u s e c w hok hbd.1 hin hs hd
  · exact depths_22 p f x y d i t b u s e c w hok hbd.1 hin hs hd
  · exact depths_23 p f x y d i t b u s e c w hok hbd.1 hin hs hd
  · exact depths_24 p f x y d i t b u s e c w hok hbd.1 hin hs hd
end Go.Proofs.Ytibeoeooajelgaa
