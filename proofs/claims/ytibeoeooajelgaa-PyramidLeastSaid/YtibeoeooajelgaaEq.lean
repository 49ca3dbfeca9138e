/- '==' and '!=' on structs and arrays. Over any program. -/
import Derived.Test.YtibeoeooajelgaaLib
namespace Go.Proofs.Ytibeoeooajelgaa
open Go.RowKit
set_option linter.unusedVariables false
section
variable {P : Program} {t : TypeId} {xs ys : Array Value} {b : Bool} {w : World}
theorem equalIn_of_eql (h : (binOp .eql t (.agg xs) (.agg ys)).run P w = .ok (.bool b) w) : (Op.equalIn 10000 t (.agg xs) (.agg ys)).run P w = .ok b w := by
  rw [run_eql_struct] at h
  cases hr : (Op.equalIn 10000 t (.agg xs) (.agg ys)).run P w with
  | ok b' w' =>
    rw [hr] at h
    simp only [Result.andThen] at h
    injection h with h1 h2
    injection h1 with h1
    rw [h1, h2]
  | _ => rw [hr] at h; simp [Result.andThen] at h
theorem neq_of_eql (h : (binOp .eql t (.agg xs) (.agg ys)).run P w = .ok (.bool b) w) : (binOp .neq t (.agg xs) (.agg ys)).run P w = .ok (.bool !b) w := by
  rw [run_neq_struct, equalIn_of_eql h]
  rfl
theorem eql_arr2 {e : TypeId} {i : TypeInfo} {k : IntKind} (ht : P.underlying t = some (.array 2 e)) (he : P.underlying e = some (.int k)) (hi : P.info? e = some i) (hc : P.cellsOf e = 1)
    (a0 a1 b0 b1 : Int) (w : World) :
    (binOp .eql t (.agg #[.int k a0, .int k a1]) (.agg #[.int k b0, .int k b1])).run P w = .ok (.bool (a0 == b0 && a1 == b1)) w := by
  rw [run_eql_struct, run_equalIn_array w 9999 _ _ ht hi, hc]
  have hp : ∀ (xs : Array Value) (j : Nat), j < xs.size → (part e xs j).run P w = .ok (xs.getD j undef) w := fun xs j h => by simp [part, isAgg, run_underlying he, h]
  simp only [List.range, List.range.loop, Op.eqItems, Sem.run_bind]
  simp [hp, run_equalIn_int _ _ _ _ _ _ _ he]
  by_cases h0 : a0 = b0 <;> by_cases h1 : a1 = b1 <;> simp [h0, h1]
end
end Go.Proofs.Ytibeoeooajelgaa
