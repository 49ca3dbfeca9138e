/- frame.twin. -/
import Derived.Test.YtibeoeooajelgaaF4
import Derived.Deep.RegionHeld
namespace Go.Proofs.Ytibeoeooajelgaa
open Go.RowKit
set_option linter.unusedVariables false

theorem IS.row {w : World} {A : Option Addr} {n : Nat} {l : Nat → Int} (h : IS w A n l) : Row w A n 1 (fun i _ => .int .i64 (l i)) := fun hn => by
  obtain ⟨g, off, e, hl, hc⟩ := h hn
  refine ⟨g, off, e, hl, fun i hi j hj => ?_⟩
  obtain rfl : j = 0 := by omega
  rw [Nat.mul_one, Nat.add_zero]
  exact hc i hi
theorem ne_rows {w : World} {B e s n : Nat} {v1 v2 : Value} {xs : List Value} (h1 : ∀ k, v1.ownBlock = some k → k < B) (h2 : w.ownsRow B e s v2 n xs) : v1.ownBlock = none ∨ v1.ownBlock ≠ v2.ownBlock := by
  cases h : v1.ownBlock with
  | none => exact .inl rfl
  | some k =>
    refine .inr fun e => ?_
    have := (h2.lt k e.symm).1
    have := h1 k h
    omega
/-- A frame whose lists are the call's own, each in a block of its own. -/
def FOwn (B : Nat) (w : World) (p : FP) (f : FD) : Prop :=
  w.ownsRow B 23 4 (.slice p.ac f.nc p.kc) f.nc (cellsR 4 (fun i j => .int .u8 (f.C i j)) f.nc) ∧
  w.ownsRow B 3 1 (.slice p.ad f.nd p.kd) f.nd (cellsR 1 (fun i _ => .int .i64 (f.D i)) f.nd) ∧
  w.ownsRow B 3 1 (.slice p.ai f.ni p.ki) f.ni (cellsR 1 (fun i _ => .int .i64 (f.I i)) f.ni) ∧
  w.ownsRow B 3 1 (.slice p.a4 f.nt p.kt) f.nt (cellsR 1 (fun i _ => .int .i64 (f.T i)) f.nt) ∧
  ((Value.slice p.ad f.nd p.kd).ownBlock = none ∨ (Value.slice p.ad f.nd p.kd).ownBlock ≠ (Value.slice p.ai f.ni p.ki).ownBlock) ∧
  ((Value.slice p.ad f.nd p.kd).ownBlock = none ∨ (Value.slice p.ad f.nd p.kd).ownBlock ≠ (Value.slice p.a4 f.nt p.kt).ownBlock) ∧
  ((Value.slice p.ai f.ni p.ki).ownBlock = none ∨ (Value.slice p.ai f.ni p.ki).ownBlock ≠ (Value.slice p.a4 f.nt p.kt).ownBlock)
theorem FOwn.ok {B : Nat} {w : World} {p : FP} {f : FD} (h : FOwn B w p f) : FOk w p f := ⟨Row.of_cells h.1, IS.of_R h.2.1, IS.of_R h.2.2.1, IS.of_R h.2.2.2.1⟩
theorem FOwn.below {B : Nat} {w w' : World} {p : FP} {f : FD} (h : FOwn B w p f) (hb : Below w.heap.size w w') : FOwn B w' p f :=
  ⟨own_below h.1 hb, own_below h.2.1 hb, own_below h.2.2.1 hb, own_below h.2.2.2.1 hb, h.2.2.2.2⟩
theorem cell_far6 {w : World} {g : Nat} {a : Addr} (h : g ≠ a.block) (u0 u1 u2 u3 u4 u5 : Value) :
    ((((((w.setCell ⟨g, 0, none⟩ u0).setCell ⟨g, 1, none⟩ u1).setCell ⟨g, 2, none⟩ u2).setCell ⟨g, 3, none⟩ u3).setCell ⟨g, 4, none⟩ u4).setCell ⟨g, 5, none⟩ u5).cell? a = w.cell? a := by
  rw [World.cell?_setCell_far _ _ _ _ h, World.cell?_setCell_far _ _ _ _ h, World.cell?_setCell_far _ _ _ _ h, World.cell?_setCell_far _ _ _ _ h, World.cell?_setCell_far _ _ _ _ h, World.cell?_setCell_far _ _ _ _ h]
/-- What twin answers. -/
def TwinR (f : FD) (x y : Int) (B : Nat) (e : Ending) (w' : World) : Prop :=
  (¬ f.May ∧ e = .returned (.tuple #[.agg #[.int .i64 0, .int .i64 0, .slice none 0 0, .slice none 0 0, .slice none 0 0, .slice none 0 0], .int .i64 0, .int .i64 8])) ∨ (f.May ∧ ¬ f.In x y ∧ e = .returned (.tuple #[.agg #[.int .i64 0, .int .i64 0, .slice none 0 0, .slice none 0 0, .slice none 0 0, .slice none 0 0], .int .i64 0, .int .i64 2])) ∨
  (f.May ∧ f.In x y ∧ ∃ p k, y * f.W + x = (k : Nat) ∧ (k < f.nc ∧ k < f.nd ∧ k < f.ni ∧ k < f.nt) ∧ e = .returned (.tuple #[.agg #[.int .i64 f.W, .int .i64 f.H, .slice p.ac f.nc p.kc, .slice p.ad f.nd p.kd, .slice p.ai f.ni p.ki, .slice p.a4 f.nt p.kt], .int .i64 k, .int .i64 0]) ∧ FOwn B w' p f)
end Go.Proofs.Ytibeoeooajelgaa
