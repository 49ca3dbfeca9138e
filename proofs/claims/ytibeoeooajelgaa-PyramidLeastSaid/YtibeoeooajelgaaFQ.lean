/- A pixel's cells, their stores. -/
import Derived.Test.YtibeoeooajelgaaF5
import Derived.Test.YtibeoeooajelgaaF10
namespace Go.Proofs.Ytibeoeooajelgaa
open Go.RowKit
set_option linter.unusedVariables false
theorem FOwn.base {b B : Nat} {w : World} {p : FP} {f : FD} (h : FOwn B w p f) (hb : b ≤ B) : FOwn b w p f :=
  ⟨own_base h.1 hb, own_base h.2.1 hb, own_base h.2.2.1 hb, own_base h.2.2.2.1 hb, h.2.2.2.2⟩
theorem cell_far4 {w : World} {g a b c d : Nat} {p : Addr} (h : g ≠ p.block) (u0 u1 u2 u3 : Value) :
    ((((w.setCell ⟨g, a, none⟩ u0).setCell ⟨g, b, none⟩ u1).setCell ⟨g, c, none⟩ u2).setCell ⟨g, d, none⟩ u3).cell? p = w.cell? p := by
  rw [World.cell?_setCell_far _ _ _ _ h, World.cell?_setCell_far _ _ _ _ h, World.cell?_setCell_far _ _ _ _ h, World.cell?_setCell_far _ _ _ _ h]
theorem drew4 (w : World) (p0 p1 p2 p3 : Addr) (u0 u1 u2 u3 : Value) : ((((w.drew.setCell p0 u0).setCell p1 u1).setCell p2 u2).setCell p3 u3) = ((((w.setCell p0 u0).setCell p1 u1).setCell p2 u2).setCell p3 u3).drew := rfl
/-- A cell that may be written. -/
def CT (w : World) (x k : Nat) (v : Value) : Prop := w.cell? ⟨x, k, none⟩ = some v ∧ w.frozen? ⟨x, k, none⟩ = false
theorem CT.far {w : World} {x k : Nat} {v : Value} (h : CT w x k v) {g a : Nat} (hg : g ≠ x) (u : Value) : CT (w.setCell ⟨g, a, none⟩ u) x k v :=
  ⟨(World.cell?_setCell_far _ _ _ _ (by exact hg)).trans h.1, (by rw [World.frozen?_setCell]; exact h.2)⟩
theorem CT.far4 {w : World} {x k : Nat} {v : Value} (h : CT w x k v) {g a b c d : Nat} (hg : g ≠ x) (u0 u1 u2 u3 : Value) : CT ((((w.setCell ⟨g, a, none⟩ u0).setCell ⟨g, b, none⟩ u1).setCell ⟨g, c, none⟩ u2).setCell ⟨g, d, none⟩ u3) x k v :=
  (((h.far hg u0).far hg u1).far hg u2).far hg u3
theorem st1 {x k : Nat} {w : World} {v : Value} {d : Int} (h : CT w x k v) :
    (Instr.storeAt 3 (.pointer (some ⟨x, k, none⟩)) (.int .i64 d)).run Try.prog w = .ok () (w.setCell ⟨x, k, none⟩ (.int .i64 d)) := by
  obtain ⟨h1, h2⟩ := h
  go_simp
theorem st4 {x k : Nat} {w : World} {v0 v1 v2 v3 : Value} {a b c d : Int} (h0 : CT w x (k * 4) v0) (h1 : CT w x (k * 4 + 1) v1) (h2 : CT w x (k * 4 + 2) v2) (h3 : CT w x (k * 4 + 3) v3) :
    (Instr.storeAt 23 (.pointer (some ⟨x, k * 4, none⟩)) (.agg #[.int .u8 a, .int .u8 b, .int .u8 c, .int .u8 d])).run Try.prog w = .ok () ((((w.setCell ⟨x, k * 4, none⟩ (.int .u8 a)).setCell ⟨x, k * 4 + 1, none⟩ (.int .u8 b)).setCell ⟨x, k * 4 + 2, none⟩ (.int .u8 c)).setCell ⟨x, k * 4 + 3, none⟩ (.int .u8 d)) := by
  obtain ⟨h0, f0⟩ := h0
  obtain ⟨h1, f1⟩ := h1
  obtain ⟨h2, f2⟩ := h2
  obtain ⟨h3, f3⟩ := h3
  go_simp
end Go.Proofs.Ytibeoeooajelgaa
