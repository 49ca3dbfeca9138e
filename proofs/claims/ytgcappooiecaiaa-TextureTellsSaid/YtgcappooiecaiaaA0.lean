/- Colours as arguments. -/
import Derived.Test.YtgcappooiecaiaaArg
import Derived.Test.YtgcappooiecaiaaW1
namespace Go.Proofs.Ytgcappooiecaiaa
open Go.ChangeShapes Go.WideShapes Go.RowKit
set_option linter.unusedVariables false

theorem cells5 : Try.prog.cellsOf 5 = 1 := by kernel_rfl
theorem cells23 : Try.prog.cellsOf 23 = 4 := by kernel_rfl
/-- Four cells that read as a colour. -/
theorem Rd.color {w : World} {cs : List Value} (h : Rd Try.prog w 23 cs) : ∃ a0 a1 a2 a3, cs = [.int .u8 a0, .int .u8 a1, .int .u8 a2, .int .u8 a3] ∧ Byte a0 ∧ Byte a1 ∧ Byte a2 ∧ Byte a3 := by
  obtain ⟨hl, hi⟩ := Rd.array Try.underlying23 h
  rw [cells23] at hl
  rw [cells5] at hi
  match cs, hl with
  | [c0, c1, c2, c3], _ =>
    obtain ⟨n0, e0, w0⟩ := Rd.int Try.underlying5 (hi 0 (by omega))
    obtain ⟨n1, e1, w1⟩ := Rd.int Try.underlying5 (hi 1 (by omega))
    obtain ⟨n2, e2, w2⟩ := Rd.int Try.underlying5 (hi 2 (by omega))
    obtain ⟨n3, e3, w3⟩ := Rd.int Try.underlying5 (hi 3 (by omega))
    simp at e0 e1 e2 e3
    subst e0 e1 e2 e3
    exact ⟨n0, n1, n2, n3, rfl, bounds_u8 w0, bounds_u8 w1, bounds_u8 w2, bounds_u8 w3⟩
theorem Arg.color {w : World} {v : Value} (h : Arg Try.prog w 23 v) : ∃ a0 a1 a2 a3, v = .agg #[.int .u8 a0, .int .u8 a1, .int .u8 a2, .int .u8 a3] ∧ Byte a0 ∧ Byte a1 ∧ Byte a2 ∧ Byte a3 := by
  obtain ⟨cs, rfl, _, hr⟩ := Arg.array Try.underlying23 h
  obtain ⟨a0, a1, a2, a3, rfl, hh⟩ := Rd.color hr
  exact ⟨a0, a1, a2, a3, rfl, hh⟩

end Go.Proofs.Ytgcappooiecaiaa
