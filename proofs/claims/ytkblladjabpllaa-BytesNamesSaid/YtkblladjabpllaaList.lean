/- Lists of numbers as bytes, in plain Lean. -/
import Derived.Test.YtkblladjabpllaaMath
namespace Go.Proofs.Ytkblladjabpllaa
/-- The bytes of the first k numbers. -/
def encs (l : Nat → Int) : Nat → List Nat
  | 0 => []
  | k + 1 => encs l k ++ enc 6 (rank (l k))
def lst (l : Nat → Int) (n k : Nat) : List Nat := enc 6 (rank (n : Int)) ++ encs l k
theorem lst_succ (l : Nat → Int) (n k : Nat) : lst l n (k + 1) = lst l n k ++ enc 6 (rank (l k)) := by
  unfold lst; rw [encs, List.append_assoc]
theorem encs_len (l : Nat → Int) : ∀ k, (encs l k).length ≤ 6 * k
  | 0 => by simp [encs]
  | k + 1 => by
    have := encs_len l k
    have := enc_len 6 (rank (l k))
    rw [encs, List.length_append]; omega
theorem lst_len (l : Nat → Int) (n k : Nat) : (lst l n k).length ≤ 6 * k + 6 := by
  have := encs_len l k
  have := enc_len 6 (rank (n : Int))
  unfold lst; rw [List.length_append]; omega
theorem encs_byte (l : Nat → Int) : ∀ k x, x ∈ encs l k → x < 256
  | 0, x, h => by simp [encs] at h
  | k + 1, x, h => by
    rw [encs] at h
    rcases List.mem_append.1 h with h | h
    · exact encs_byte l k x h
    · exact enc_byte 6 _ x h
theorem lst_byte (l : Nat → Int) (n k x : Nat) (h : x ∈ lst l n k) : x < 256 := by
  rcases List.mem_append.1 h with h | h
  · exact enc_byte 6 _ x h
  · exact encs_byte l k x h
theorem encs_congr {l l' : Nat → Int} : ∀ k, (∀ i, i < k → l i = l' i) → encs l k = encs l' k
  | 0, _ => rfl
  | k + 1, h => by rw [encs, encs, encs_congr k (fun i hi => h i (by omega)), h k (by omega)]

/-- What is read from place p on: k numbers into l; none where one is refused. -/
def rds (b : Nat → Nat) (n : Nat) : Nat → Nat → List Int → Option (List Int × Nat)
  | 0, p, l => some (l, p)
  | k + 1, p, l => if (rd (fun i => b (p + i)) (n - p)).2.2 = 0 then rds b n k (p + (rd (fun i => b (p + i)) (n - p)).2.1.toNat) (l ++ [(rd (fun i => b (p + i)) (n - p)).1]) else none
/-- The list, the place behind it, the error. -/
def rdList (b : Nat → Nat) (n : Nat) (most : Int) : List Int × Nat × Int :=
  if most < 0 ∨ 65536 < most then ([], 0, 2)
  else if (rd b n).2.2 ≠ 0 ∨ (rd b n).1 < 0 ∨ most < (rd b n).1 then ([], 0, 8)
  else match rds b n (rd b n).1.toNat (rd b n).2.1.toNat [] with
    | none => ([], 0, 8)
    | some (l, p) => (l, p, 0)
end Go.Proofs.Ytkblladjabpllaa
