/- Textures as arguments; TextureEach from its arguments. -/
import Derived.Test.YtgcappooiecaiaaA0
import Derived.Test.YtgcappooiecaiaaW8
namespace Go.Proofs.Ytgcappooiecaiaa
open Go.ChangeShapes Go.WideShapes Go.RowKit
set_option linter.unusedVariables false

theorem cells3 : Try.prog.cellsOf 3 = 1 := by kernel_rfl
theorem cells28 : Try.prog.cellsOf 28 = 1 := by kernel_rfl
theorem cells30 : Try.prog.cellsOf 30 = 3 := by kernel_rfl
/-- A slice of colours. -/
theorem Rd.colors {w : World} {cs : List Value} (h : Rd Try.prog w 28 cs) : ∃ a n c f, cs = [.slice a n c] ∧ n ≤ c ∧ (c : Int) ≤ 9223372036854775807 ∧ Px w a n f ∧ ∀ i, i < n → ∀ j, j < 4 → Byte (f i j) := by
  obtain ⟨a, n, c, rfl, hn, hc, hs⟩ := Rd.slice Try.underlying28 (by rw [cells23]; omega) h
  have hc' : (c : Int) ≤ 9223372036854775807 := by unfold maxLen at hc; omega
  by_cases h0 : 0 < c
  · obtain ⟨b, off, rfl, hb, hi⟩ := hs h0
    have key : ∀ i, i < c → ∃ q : Nat → Int, ∀ j, j < 4 → w.cell? ⟨b, off + i * 4 + j, none⟩ = some (.int .u8 (q j)) ∧ Byte (q j) := by
      intro i hi'
      obtain ⟨cs', hl, hcell, hr⟩ := hi i hi'
      obtain ⟨a0, a1, a2, a3, rfl, b0, b1, b2, b3⟩ := Rd.color hr
      rw [cells23] at hcell
      refine ⟨fun j => if j = 0 then a0 else if j = 1 then a1 else if j = 2 then a2 else a3, fun j hj => ?_⟩
      have e := hcell j hj
      obtain rfl | rfl | rfl | rfl : j = 0 ∨ j = 1 ∨ j = 2 ∨ j = 3 := by omega
      all_goals exact ⟨by rw [e]; rfl, by simp; assumption⟩
    obtain ⟨f, hf⟩ := Go.Deep.choose_lt key
    exact ⟨_, n, c, f, rfl, hn, hc', fun _ => ⟨b, off, rfl, hb, fun i hi' j hj => (hf i (by omega) j hj).1⟩, fun i hi' j hj => (hf i (by omega) j hj).2⟩
  · exact ⟨_, n, c, fun _ _ => 0, rfl, hn, hc', fun h => absurd h (by omega), fun i hi' => absurd hi' (by omega)⟩
/-- The cells of a texture. -/
theorem Rd.texture {w : World} {cs : List Value} (h : Rd Try.prog w 30 cs) : ∃ W H a n c f, cs = [.int .i64 W, .int .i64 H, .slice a n c] ∧ (-9223372036854775808 ≤ W ∧ W ≤ 9223372036854775807) ∧ (-9223372036854775808 ≤ H ∧ H ≤ 9223372036854775807) ∧ n ≤ c ∧ (c : Int) ≤ 9223372036854775807 ∧ Px w a n f ∧ ∀ i, i < n → ∀ j, j < 4 → Byte (f i j) := by
  obtain ⟨hl, hi⟩ := Rd.struct Try.underlying30 h
  rw [cells30] at hl
  match cs, hl with
  | [c0, c1, c2], _ =>
    obtain ⟨n0, e0, w0⟩ := Rd.int Try.underlying3 (hi 0 _ rfl)
    obtain ⟨n1, e1, w1⟩ := Rd.int Try.underlying3 (hi 1 _ rfl)
    obtain ⟨a, n, c, f, e2, h2⟩ := Rd.colors (hi 2 _ rfl)
    simp [cells3, cells28] at e0 e1 e2
    subst e0 e1 e2
    exact ⟨n0, n1, a, n, c, f, rfl, bounds_i64 w0, bounds_i64 w1, h2⟩
theorem Arg.texture {w : World} {v : Value} (h : Arg Try.prog w 30 v) : ∃ W H a n c f, v = .agg #[.int .i64 W, .int .i64 H, .slice a n c] ∧ (-9223372036854775808 ≤ W ∧ W ≤ 9223372036854775807) ∧ (-9223372036854775808 ≤ H ∧ H ≤ 9223372036854775807) ∧ n ≤ c ∧ (c : Int) ≤ 9223372036854775807 ∧ Px w a n f ∧ ∀ i, i < n → ∀ j, j < 4 → Byte (f i j) := by
  obtain ⟨cs, rfl, _, hr⟩ := Arg.struct Try.underlying30 h
  obtain ⟨W, H, a, n, c, f, rfl, hh⟩ := Rd.texture hr
  exact ⟨W, H, a, n, c, f, rfl, hh⟩

theorem textureEach_arg (v0 v1 v2 : Value) (w : World) (h0 : Arg Try.prog w 30 v0) (h1 : Arg Try.prog w 3 v1) (h2 : Arg Try.prog w 3 v2) :
    Calls Try.prog 6 #[v0, v1, v2] w fun e w' => e = .returned (.bool true) ∧ Below w.heap.size w w' := by
  obtain ⟨W, H, a, n, c, f, rfl, _, _, _, _, hp, _⟩ := h0.texture
  obtain ⟨x, rfl, _⟩ := h1.int Try.underlying3
  obtain ⟨y, rfl, _⟩ := h2.int Try.underlying3
  by_cases h : May W H n ∧ (0 ≤ x ∧ x < W) ∧ (0 ≤ y ∧ y < H)
  · exact each_in W H x y a n c f w h.1 hp h.2.1 h.2.2
  · exact each_out W H x y a n c w h
end Go.Proofs.Ytgcappooiecaiaa
