/- Small lemmas of my own, over any program: what a world keeps behind a call that makes new blocks alone; how arguments read. -/
import Derived.WalkKit
import Derived.WalkSpells
import Derived.WalkLawsBesides
import Derived.Deep.RegionHeld3
import Derived.Deep.QuietTactic
import Derived.BigQuiet
import Derived.Lib.Hide
import Derived.Deep.Draws
import Derived.ChangeKeysEq
namespace Go.Proofs.YtemopgpcpjnmkaaDoor
open Go.RowKit
set_option linter.unusedVariables false

/-- A condition on the world that new blocks do not break. -/
def Keeps (S : World → Prop) : Prop := ∀ W W', Below W.heap.size W W' → S W → S W'
theorem Keeps.and {S T : World → Prop} (h : Keeps S) (k : Keeps T) : Keeps (fun W => S W ∧ T W) := fun W W' hb hs => ⟨h W W' hb hs.1, k W W' hb hs.2⟩
theorem Keeps.cell (p : Addr) (v : Value) : Keeps (fun W => W.cell? p = some v) := fun W W' hb hs => by
  have hl := World.block_lt_of_cell? W p hs
  exact (hb.cell hl).trans hs
theorem Keeps.frozen (p : Addr) : Keeps (fun W => p.block < W.heap.size ∧ W.frozen? p = false) := fun W W' hb hs => ⟨Nat.lt_of_lt_of_le hs.1 hb.size, (hb.frozen hs.1).trans hs.2⟩
theorem Keeps.size (n : Nat) : Keeps (fun W => n ≤ W.heap.size) := fun W W' hb hs => Nat.le_trans hs hb.size
theorem Keeps.below (w : World) {B : Nat} : Keeps (fun W => Below B w W ∧ B ≤ W.heap.size) := fun W W' hb hs => ⟨hs.1.trans (hb.mono hs.2), Nat.le_trans hs.2 hb.size⟩
theorem frozen_below {w1 w2 : World} (h : Below w1.heap.size w1 w2) {b : Nat} (hb : b < w1.heap.size) (hf : ∀ j, w1.frozen? ⟨b, j, none⟩ = false) : ∀ j, w2.frozen? ⟨b, j, none⟩ = false :=
  fun j => (h.frozen (p := ⟨b, j, none⟩) hb).trans (hf j)
theorem below_drewN {B : Nat} {a w : World} (h : Below B a w) (n : Nat) : Below B a (w.drewN n) := ⟨h.os, h.tape, h.output, h.size, h.block⟩

/-! ### '==' on arrays of four and of three integers -/
section
variable {P : Program}
theorem eql_arr4 {t e : TypeId} {k : IntKind} {i : TypeInfo} (ht : P.underlying t = some (.array 4 e)) (he : P.underlying e = some (.int k)) (hi : P.info? e = some i) (hc : P.cellsOf e = 1)
    (a0 a1 a2 a3 b0 b1 b2 b3 : Int) (w : World) :
    (binOp .eql t (.agg #[.int k a0, .int k a1, .int k a2, .int k a3]) (.agg #[.int k b0, .int k b1, .int k b2, .int k b3])).run P w = .ok (.bool (a0 == b0 && (a1 == b1 && (a2 == b2 && a3 == b3)))) w := by
  rw [run_eql_struct, run_equalIn_array w 9999 _ _ ht hi, hc]
  have hp : ∀ (xs : Array Value) (j : Nat), j < xs.size → (part e xs j).run P w = .ok (xs.getD j undef) w := fun xs j h => by simp [part, isAgg, run_underlying he, h]
  simp only [List.range, List.range.loop, Op.eqItems, Sem.run_bind]
  simp [hp, run_equalIn_int _ _ _ _ _ _ _ he]
  by_cases h0 : a0 = b0 <;> by_cases h1 : a1 = b1 <;> by_cases h2 : a2 = b2 <;> by_cases h3 : a3 = b3 <;> simp [h0, h1, h2, h3]
theorem eql_arr3 {t e : TypeId} {k : IntKind} {i : TypeInfo} (ht : P.underlying t = some (.array 3 e)) (he : P.underlying e = some (.int k)) (hi : P.info? e = some i) (hc : P.cellsOf e = 1)
    (a0 a1 a2 b0 b1 b2 : Int) (w : World) :
    (binOp .eql t (.agg #[.int k a0, .int k a1, .int k a2]) (.agg #[.int k b0, .int k b1, .int k b2])).run P w = .ok (.bool (a0 == b0 && (a1 == b1 && a2 == b2))) w := by
  rw [run_eql_struct, run_equalIn_array w 9999 _ _ ht hi, hc]
  have hp : ∀ (xs : Array Value) (j : Nat), j < xs.size → (part e xs j).run P w = .ok (xs.getD j undef) w := fun xs j h => by simp [part, isAgg, run_underlying he, h]
  simp only [List.range, List.range.loop, Op.eqItems, Sem.run_bind]
  simp [hp, run_equalIn_int _ _ _ _ _ _ _ he]
  by_cases h0 : a0 = b0 <;> by_cases h1 : a1 = b1 <;> by_cases h2 : a2 = b2 <;> simp [h0, h1, h2]
end
/-- A slice that is made full. -/
theorem make_full {P : Program} {t e : TypeId} {i : TypeInfo} {z : Value} (ht : P.underlying t = some (.slice e)) (hi : P.info? e = some i) (hz : i.zero = some z) (n : Nat) (hb : i.bytes * n ≤ 281474976710656) (hn : n ≤ 9223372036854775807) (w : World) :
    (Instr.makeSlice t (.int .i64 (n : Int)) (.int .i64 (n : Int))).run P w = .ok (.slice (some ⟨w.heap.size, 0, none⟩) n n) (w.alloc (.cells (madeCells z.cells (n * i.size)) e)) := by
  have hb' : (i.bytes : Int) * (n : Int) ≤ 281474976710656 := by
    rw [← Int.natCast_mul]; omega
  simpa using run_make (P := P) w t e i z ht hi hz .i64 .i64 n n (by omega) (by omega) hb' (by omega)
end Go.Proofs.YtemopgpcpjnmkaaDoor
