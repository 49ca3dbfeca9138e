/- Looks and lists of textures as arguments; ShadeTexels from its arguments. -/
import Derived.Test.YtgcappooiecaiaaA2
import Derived.Test.YtgcappooiecaiaaW16
namespace Go.Proofs.Ytgcappooiecaiaa
open Go.ChangeShapes Go.WideShapes Go.RowKit
set_option linter.unusedVariables false

theorem cells23' : Try.prog.cellsOf 23 = 4 := by kernel_rfl
theorem cells5' : Try.prog.cellsOf 5 = 1 := by kernel_rfl
theorem cells4' : Try.prog.cellsOf 4 = 1 := by kernel_rfl
theorem cells49 : Try.prog.cellsOf 49 = 9 := by kernel_rfl
theorem Arg.look {w : World} {v : Value} (h : Arg Try.prog w 49 v) : ∃ (cc : Nat → Int) (tx cu bi : Int) (bl : Bool) (bn : Int), v = .agg #[.int .u8 (cc 0), .int .u8 (cc 1), .int .u8 (cc 2), .int .u8 (cc 3), .int .i64 tx, .int .u8 cu, .int .i64 bi, .bool bl, .int .i64 bn] ∧ ∀ j, Byte (cc j) := by
  obtain ⟨cs, rfl, _, hr⟩ := Arg.struct Try.underlying49 h
  obtain ⟨hl, hi⟩ := Rd.struct Try.underlying49 hr
  rw [cells49] at hl
  match cs, hl with
  | [c0, c1, c2, c3, c4, c5, c6, c7, c8], _ =>
    obtain ⟨a0, a1, a2, a3, e0, b0, b1, b2, b3⟩ := Rd.color (hi 0 _ rfl)
    obtain ⟨tx, e1, _⟩ := Rd.int Try.underlying3 (hi 1 _ rfl)
    obtain ⟨cu, e2, _⟩ := Rd.int Try.underlying5 (hi 2 _ rfl)
    obtain ⟨bi, e3, _⟩ := Rd.int Try.underlying3 (hi 3 _ rfl)
    obtain ⟨bl, e4⟩ := Rd.bool Try.underlying4 (hi 4 _ rfl)
    obtain ⟨bn, e5, _⟩ := Rd.int Try.underlying3 (hi 5 _ rfl)
    simp [cells3, cells23', cells5', cells4'] at e0 e1 e2 e3 e4 e5
    obtain ⟨rfl, rfl, rfl, rfl⟩ := e0
    subst e1 e2 e3 e4 e5
    refine ⟨fun j => if j = 0 then a0 else if j = 1 then a1 else if j = 2 then a2 else a3, tx, cu, bi, bl, bn, rfl, fun j => ?_⟩
    dsimp only
    split
    · exact b0
    · split
      · exact b1
      · split
        · exact b2
        · exact b3
theorem Arg.textures {w : World} {v : Value} (h : Arg Try.prog w 39 v) : ∃ A m c D, v = .slice A m c ∧ (m : Int) ≤ 9223372036854775807 ∧ TL w A m D ∧ (∀ i, ((D i).n : Int) ≤ 9223372036854775807) ∧ ∀ i, i < m → ∀ p, p < (D i).n → ∀ j, j < 4 → Byte ((D i).f p j) := by
  obtain ⟨a, n, c, rfl, hr⟩ := h.slice Try.underlying39
  obtain ⟨a', n', c', e, hn, hc, hs⟩ := Rd.slice Try.underlying39 (by rw [cells30]; omega) hr
  simp only [List.cons.injEq, Value.slice.injEq, and_true] at e
  obtain ⟨rfl, rfl, rfl⟩ := e
  have hc' : (n : Int) ≤ 9223372036854775807 := by unfold maxLen at hc; omega
  by_cases h0 : 0 < n
  · obtain ⟨b, off, rfl, hb, hi⟩ := hs (by omega)
    have key : ∀ i, ∃ d : TexD, ((d.n : Int) ≤ 9223372036854775807) ∧ (i < n → (w.cell? ⟨b, off + i * 3, none⟩ = some (.int .i64 d.W) ∧ w.cell? ⟨b, off + i * 3 + 1, none⟩ = some (.int .i64 d.H) ∧ w.cell? ⟨b, off + i * 3 + 2, none⟩ = some (.slice d.a d.n d.c)) ∧ Px w d.a d.n d.f ∧ ∀ p, p < d.n → ∀ j, j < 4 → Byte (d.f p j)) := by
      intro i
      by_cases hin : i < n
      · obtain ⟨cs', hl, hcell, hrd⟩ := hi i (by omega)
        obtain ⟨W, H, ta, tn, tc, f, rfl, _, _, htn, htc, hp, hB⟩ := Rd.texture hrd
        rw [cells30] at hcell
        refine ⟨⟨W, H, ta, tn, tc, f⟩, by dsimp only; omega, fun _ => ⟨⟨?_, ?_, ?_⟩, hp, hB⟩⟩
        · exact hcell 0 (by omega)
        · exact hcell 1 (by omega)
        · exact hcell 2 (by omega)
      · exact ⟨⟨0, 0, none, 0, 0, fun _ _ => 0⟩, by decide, fun h => absurd h hin⟩
    obtain ⟨D, hD⟩ := Classical.axiomOfChoice key
    exact ⟨_, n, c, D, rfl, hc', fun _ => ⟨b, off, rfl, hb, fun i hi => ((hD i).2 hi).1, fun i hi => ((hD i).2 hi).2.1⟩, fun i => (hD i).1, fun i hi => ((hD i).2 hi).2.2⟩
  · exact ⟨a, n, c, fun _ => ⟨0, 0, none, 0, 0, fun _ _ => 0⟩, rfl, hc', fun h => absurd h h0, fun _ => (by decide : ((0 : Nat) : Int) ≤ 9223372036854775807), fun i hi => absurd hi (by omega)⟩
theorem shadeTexels_arg (v0 v1 v2 v3 : Value) (w : World) (h0 : Arg Try.prog w 49 v0) (h1 : Arg Try.prog w 39 v1) (h2 : Arg Try.prog w 3 v2) (h3 : Arg Try.prog w 3 v3) :
    Calls Try.prog 12 #[v0, v1, v2, v3] w fun e w' => e = .returned (.bool true) ∧ Below w.heap.size w w' := by
  obtain ⟨cc, tx, cu, bi, bl, bn, rfl, hb⟩ := h0.look
  obtain ⟨A, m, c, D, rfl, hm, hl, hD, hB⟩ := h1.textures
  obtain ⟨u, rfl, _⟩ := h2.int Try.underlying3
  obtain ⟨v, rfl, _⟩ := h3.int Try.underlying3
  exact texels_any A m c D cc tx cu bi bl bn u v w hl hm hD hb hB
end Go.Proofs.Ytgcappooiecaiaa
