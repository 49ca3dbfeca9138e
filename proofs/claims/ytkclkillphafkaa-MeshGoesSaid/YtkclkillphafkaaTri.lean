/- The triangles of a primitive: plain. -/
import Derived.Test.YtkclkillphafkaaRow
import Derived.Test.YtkclkillphafkaaInts
namespace Go.Proofs.Ytkclkillphafkaa
open Go.RowKit
set_option linter.unusedVariables false

/-- Corner j of the i-th triangle of a primitive of kind k with the numbers l. -/
def tri (k : Int) (l : Nat → Int) (i j : Nat) : Int :=
  if k = 0 then l (3 * i + j) else if k = 1 then (if i % 2 = 0 then l (i + j) else if j = 0 then l (i + 1) else if j = 1 then l i else l (i + 2)) else if j = 0 then l 0 else l (i + j)
def tv (k : Int) (l : Nat → Int) (i j : Nat) : Value := .int .i64 (tri k l i j)
/-- How many triangles. -/
def cnt (k : Int) (n : Nat) : Nat := if k = 0 then n / 3 else n - 2
/-- Has a primitive as many numbers as its kind has it? -/
def Fits (k : Int) (n : Nat) : Prop := (k = 0 ∧ n % 3 = 0) ∨ ((k = 1 ∨ k = 2) ∧ (n = 0 ∨ 3 ≤ n))
/-- The error's number. -/
def pcode (k : Int) (n : Nat) : Int := if 2 < k then 2 else if 200 < n then 4 else if (k = 0 ∧ n % 3 = 0) ∨ ((k = 1 ∨ k = 2) ∧ (n = 0 ∨ 3 ≤ n)) then 0 else 40
/-- What Prim answers. -/
def PrimR (k : Int) (n : Nat) (l : Nat → Int) (B : Nat) (e : Ending) (w' : World) : Prop :=
  (pcode k n = 0 ∧ ∃ X cx, e = .returned (.tuple #[.slice X (cnt k n) cx, .int .i64 0]) ∧ w'.ownsRow B 36 3 (.slice X (cnt k n) cx) (cnt k n) (cellsR 3 (tv k l) (cnt k n))) ∨
  (pcode k n ≠ 0 ∧ e = .returned (.tuple #[.slice none 0 0, .int .i64 (pcode k n)]))
theorem kind_cases {k : Int} (h0 : 0 ≤ k) (h : ¬ 2 < k) : k = 0 ∨ k = 1 ∨ k = 2 := by omega
theorem tv_one (k : Int) (l : Nat → Int) (i j : Nat) : (tv k l i j).oneCell' = true := rfl
theorem tri_succ (k : Int) (l : Nat → Int) (m : Nat) : cellsR 3 (tv k l) (m + 1) = cellsR 3 (tv k l) m ++ [.int .i64 (tri k l m 0), .int .i64 (tri k l m 1), .int .i64 (tri k l m 2)] := rfl
theorem tri0 (l : Nat → Int) (m j : Nat) : tri 0 l m j = l (3 * m + j) := rfl
theorem tri1 (l : Nat → Int) (m j : Nat) : tri 1 l m j = if m % 2 = 0 then l (m + j) else if j = 0 then l (m + 1) else if j = 1 then l m else l (m + 2) := rfl
theorem tri2 (l : Nat → Int) (m j : Nat) : tri 2 l m j = if j = 0 then l 0 else l (m + j) := rfl
end Go.Proofs.Ytkclkillphafkaa
