/- frame: nobody; what Put and Lay answer. -/
import Derived.Test.YtibeoeooajelgaaF6
import Derived.Test.YtibeoeooajelgaaF7
import Derived.Test.YtibeoeooajelgaaF1
namespace Go.Proofs.Ytibeoeooajelgaa
open Go.RowKit
set_option linter.unusedVariables false
set_option maxRecDepth 100000 in
set_option maxHeartbeats 2000000 in
theorem nobody_any (p : FP) (f : FD) (k : Nat) (w : World) (h : IS w p.ai f.ni f.I) (hk : k < f.ni) :
    Calls Try.prog 56 #[.agg #[.int .i64 f.W, .int .i64 f.H, .slice p.ac f.nc p.kc, .slice p.ad f.nd p.kd, .slice p.ai f.ni p.ki, .slice p.a4 f.nt p.kt], .int .i64 k] w fun e w' => e = .returned (.bool (decide (f.I k < 0))) ∧ Below w.heap.size w w' := by
  obtain ⟨W, H, nc, nd, ni, nt, C, D, I, T⟩ := f
  obtain ⟨ac, ad, ai, a4, kc, kd, ki, kt⟩ := p
  dsimp only at h hk ⊢
  have hb0 : Below w.heap.size w (w.alloc (.cells #[.int .i64 W, .int .i64 H, .slice ac nc kc, .slice ad nd kd, .slice ai ni ki, .slice a4 nt kt] 90)) := by
    repeat' (first | assumption | refine Below.setCell ?_ (by first | omega | (simp; done) | (simp; omega)) _ | refine Below.alloc ?_ (by first | omega | (simp; done) | (simp; omega)) _ | exact Below.refl _ _ | apply Below.drew)
  have HB0 := Lib.hid hb0
  obtain ⟨g, o, rfl, hg, hc⟩ := h (by omega)
  have c0 := hc k hk
  have i0 : (0 : Int) ≤ (k : Int) := by omega
  have i1 : (k : Int) < (ni : Int) := by omega
  clear hc hb0 h
  go_enter Try.func56, Try.ntmps56
  go_wp2
  go_ret
  exact ⟨rfl, HB0.out⟩
theorem fown_zero (B : Nat) (w : World) : FOwn B w FP0 FD0 := ⟨own_nil _ _ _ _, own_nil _ _ _ _, own_nil _ _ _ _, own_nil _ _ _ _, .inl rfl, .inl rfl, .inl rfl⟩
/-- A frame of the call's own that is answered with a code. -/
def FRO (V : FD → Int → Prop) (B : Nat) (e : Ending) (w' : World) : Prop := ∃ p f x, e = .returned (.tuple #[.agg #[.int .i64 f.W, .int .i64 f.H, .slice p.ac f.nc p.kc, .slice p.ad f.nd p.kd, .slice p.ai f.ni p.ki, .slice p.a4 f.nt p.kt], .int .i64 x]) ∧ FOwn B w' p f ∧ V f x
theorem FRO.zero {V : FD → Int → Prop} {B : Nat} {w' : World} {x : Int} (h : V FD0 x) : FRO V B (.returned (.tuple #[.agg #[.int .i64 0, .int .i64 0, .slice none 0 0, .slice none 0 0, .slice none 0 0, .slice none 0 0], .int .i64 x])) w' := ⟨FP0, FD0, x, rfl, fown_zero _ _, h⟩
def PutV (f : FD) (x y d i t : Int) (c : Nat → Int) (g : FD) (z : Int) : Prop :=
  (¬ f.May ∧ z = 8 ∧ g = FD0) ∨ (f.May ∧ ¬ (f.In x y ∧ SomeP d i t) ∧ z = 2 ∧ g = FD0) ∨ (f.May ∧ f.In x y ∧ SomeP d i t ∧ z = 0 ∧ ∃ k : Nat, y * f.W + x = k ∧ (k < f.nc ∧ k < f.nd ∧ k < f.ni ∧ k < f.nt) ∧ g = f.put k d i t c)
end Go.Proofs.Ytibeoeooajelgaa
