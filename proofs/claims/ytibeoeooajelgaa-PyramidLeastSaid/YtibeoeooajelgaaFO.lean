/- frame.twin. -/
import Derived.Test.YtibeoeooajelgaaF4
import Derived.Deep.RegionHeld
namespace Go.Proofs.Ytibeoeooajelgaa
open Go.RowKit
set_option linter.unusedVariables false

theorem IS.row {w : World} {A : Option Addr} {n : Nat} {l : Nat → Int} (h : IS w A n l) : Row w A n 1 (fun i _ => .int .i64 (l i)) := fun hn => by
  obtain ⟨g, off, e, hl, hc⟩ := h hn
  refine ⟨g, off, e, hl, fun i hi j hj => ?_⟩
  obtain rfl : j = 0 := by omega
  rw [Nat.mul_one, Nat.add_zero]
  exact hc i hi
theorem ne_rows {w : World} {B e s n : Nat} {v1 v2 : Value} {xs : List Value} (h1 : ∀ k, v1.ownBlock = some k → k < B) (h2 : w.ownsRow B e s v2 n xs) : v1.ownBlock = none ∨ v1.ownBlock ≠ v2.ownBlock := by
  cases h : v1.ownBlock with
  | none => exact .inl rfl
  | some k =>
    refine .inr fun e => ?_
    have := (h2.lt k e.symm).1
    have := h1 k h
    omega
/-- A frame whose lists are the call's own, each in a block of its own. -/
def FOwn (B : Nat) (w : World) (p : FP) (f : FD) : Prop :=
  w.ownsRow B 23 4 (.slice p.ac f.nc p.kc) f.nc (cellsR 4 (fun i j => .int .u8 (f.C i j)) f.nc) ∧
  w.ownsRow B 3 1 (.slice p.ad f.nd p.kd) f.nd (cellsR 1 (fun i _ => .int .i64 (f.D i)) f.nd) ∧
  w.ownsRow B 3 1 (.slice p.ai f.ni p.ki) f.ni (cellsR 1 (fun i _ => .int .i64 (f.I i)) f.ni) ∧
  w.ownsRow B 3 1 (.slice p.a4 f.nt p.kt) f.nt (cellsR 1 (fun i _ => .int .i64 (f.T i)) f.nt) ∧
  ((Value.slice p.ad f.nd p.kd).ownBlock = none ∨ (Value.slice p.ad f.nd p.kd).ownBlock ≠ (Value.slice p.ai f.ni p.ki).ownBlock) ∧
  ((Value.slice p.ad f.nd p.kd).ownBlock = none ∨ (Value.slice p.ad f.nd p.kd).ownBlock ≠ (Value.slice p.a4 f.nt p.kt).ownBlock) ∧
  ((Value.slice p.ai f.ni p.ki).ownBlock = none ∨ (Value.slice p.ai f.ni p.ki).ownBlock ≠ (Value.slice p.a4 f.nt p.kt).ownBlock)
theorem FOwn.ok {B : Nat} {w : World} {p : FP} {f : FD} (h : FOwn B w p f) : FOk w p f := ⟨Row.of_cells h.1, IS.of_R h.2.1, IS.of_R h.2.2.1, IS.of_R h.2.2.2.1⟩
theorem FOwn.below {B : Nat} {w w' : World} {p : FP} {f : FD} (h : FOwn B w p f) (hb : Below w.heap.size w w') : FOwn B w' p f :=
  ⟨own_below h.1 hb, own_below h.2.1 hb, own_below h.2.2.1 hb, own_below h.2.2.2.1 hb, h.2.2.2.2⟩
theorem cell_far6 {w : World} {g : Nat} {a : Addr} (h : g ≠ a.block) (u0 u1 u2 u3 u4 u5 : Value) :
    ((((((w.setCell ⟨g, 0, none⟩ u0).setCell ⟨g, 1, none⟩ u1).setCell ⟨g, 2, none⟩ u2).setCell ⟨g, 3, none⟩ u3).setCell ⟨g, 4, none⟩ u4).setCell ⟨g, 5, none⟩ u5).cell? a = w.cell? a := by
  rw [World.cell?_setCell_far _ _ _ _ h, World.cell?_setCell_far _ _ _ _ h, World.cell?_setCell_far _ _ _ _ h, World.cell?_setCell_far _ _ _ _ h, World.cell?_setCell_far _ _ _ _ h, World.cell?_setCell_far _ _ _ _ h]
theorem bld29 (W H : Int) (A1 A2 A3 A4 : Option Addr) (nd k1 k2 k3 k4 : Nat) (w : World) : (Instr.build 29 #[(0, .int .i64 W), (1, .int .i64 H), (2, .slice A1 nd k1), (3, .slice A2 nd k2), (4, .slice A3 nd k3), (5, .slice A4 nd k4)]).run Try.prog w = .ok (.agg #[.int .i64 W, .int .i64 H, .slice A1 nd k1, .slice A2 nd k2, .slice A3 nd k3, .slice A4 nd k4]) w :=
  run_build w 29 _ #[.int .i64 W, .int .i64 H, .slice A1 nd k1, .slice A2 nd k2, .slice A3 nd k3, .slice A4 nd k4] (by kernel_rfl)
theorem bld90 (W H : Int) (A1 A2 A3 A4 : Option Addr) (nd k1 k2 k3 k4 : Nat) (w : World) : (Instr.build 90 #[(0, .agg #[.int .i64 W, .int .i64 H, .slice A1 nd k1, .slice A2 nd k2, .slice A3 nd k3, .slice A4 nd k4])]).run Try.prog w = .ok (.agg #[.int .i64 W, .int .i64 H, .slice A1 nd k1, .slice A2 nd k2, .slice A3 nd k3, .slice A4 nd k4]) w :=
  run_build w 90 _ #[.int .i64 W, .int .i64 H, .slice A1 nd k1, .slice A2 nd k2, .slice A3 nd k3, .slice A4 nd k4] (by kernel_rfl)
theorem st6 {W H : Int} {A1 A2 A3 A4 : Option Addr} {n1 n2 n3 n4 k1 k2 k3 k4 g : Nat} {w : World} {c0 c1 c2 c3 c4 c5 : Value} (h : HasBlk w g 90 #[c0, c1, c2, c3, c4, c5]) :
    (Instr.storeAt 90 (.pointer (some ⟨g, 0, none⟩)) (.agg #[.int .i64 W, .int .i64 H, .slice A1 n1 k1, .slice A2 n2 k2, .slice A3 n3 k3, .slice A4 n4 k4])).run Try.prog w =
      .ok () ((((((w.setCell ⟨g, 0, none⟩ (.int .i64 W)).setCell ⟨g, 1, none⟩ (.int .i64 H)).setCell ⟨g, 2, none⟩ (.slice A1 n1 k1)).setCell ⟨g, 3, none⟩ (.slice A2 n2 k2)).setCell ⟨g, 4, none⟩ (.slice A3 n3 k3)).setCell ⟨g, 5, none⟩ (.slice A4 n4 k4)) := by
  have r0 := h.cell 0
  have r1 := h.cell 1
  have r2 := h.cell 2
  have r3 := h.cell 3
  have r4 := h.cell 4
  have r5 := h.cell 5
  have f0 := h.frozen 0
  have f1 := h.frozen 1
  have f2 := h.frozen 2
  have f3 := h.frozen 3
  have f4 := h.frozen 4
  have f5 := h.frozen 5
  simp at r0 r1 r2 r3 r4 r5
  go_simp
theorem upon_eq {P : Program} {o : Oper} {a : Act} {K : Act → World → Prop} {Q : Exit → Act → World → Prop} {α : Type} {r r' : Result α} {f : α → World → Result Next} (e : r = r') (h : Oper.upon P o a K Q (r'.andThen f)) : Oper.upon P o a K Q (r.andThen f) := by
  rw [e]; exact h
theorem upon_store {P : Program} {o : Oper} {a : Act} {K : Act → World → Prop} {Q : Exit → Act → World → Prop} {α : Type} {r : Result α} {x : α} {w' : World} (e : r = .ok x w') (h : K (a.put o.dst undef) w') : Oper.upon P o a K Q (r.andThen fun _ w => .ok .skip w) := by
  rw [e]
  simpa [Oper.upon, Result.andThen] using h
/-- What twin answers. -/
def TwinR (f : FD) (x y : Int) (B : Nat) (e : Ending) (w' : World) : Prop :=
  (¬ f.May ∧ e = .returned (.tuple #[.agg #[.int .i64 0, .int .i64 0, .slice none 0 0, .slice none 0 0, .slice none 0 0, .slice none 0 0], .int .i64 0, .int .i64 8])) ∨ (f.May ∧ ¬ f.In x y ∧ e = .returned (.tuple #[.agg #[.int .i64 0, .int .i64 0, .slice none 0 0, .slice none 0 0, .slice none 0 0, .slice none 0 0], .int .i64 0, .int .i64 2])) ∨
  (f.May ∧ f.In x y ∧ ∃ p k, y * f.W + x = (k : Nat) ∧ (k < f.nc ∧ k < f.nd ∧ k < f.ni ∧ k < f.nt) ∧ e = .returned (.tuple #[.agg #[.int .i64 f.W, .int .i64 f.H, .slice p.ac f.nc p.kc, .slice p.ad f.nd p.kd, .slice p.ai f.ni p.ki, .slice p.a4 f.nt p.kt], .int .i64 k, .int .i64 0]) ∧ FOwn B w' p f)
end Go.Proofs.Ytibeoeooajelgaa
