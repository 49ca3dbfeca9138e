/- What the program's bit operations come to, in plain Lean. -/
import Derived.Test.YtkblladjabpllaaMath
import Derived.Test.YtkblladjabpllaaLib
import Derived.Laws.BitsAllLaws
namespace Go.Proofs.Ytkblladjabpllaa
open Go.RowKit
set_option linter.unusedVariables false

theorem xor_ones (x : Nat) (h : x < 18446744073709551616) : x ^^^ 18446744073709551615 = 18446744073709551615 - x := by
  have e : (BitVec.ofNat 64 x ^^^ BitVec.allOnes 64).toNat = 18446744073709551615 - x := by
    rw [BitVec.xor_allOnes, BitVec.toNat_not, BitVec.toNat_ofNat, Nat.mod_eq_of_lt (by simpa using h)]
  rw [BitVec.toNat_xor, BitVec.toNat_ofNat, Nat.mod_eq_of_lt (by simpa using h), BitVec.toNat_allOnes] at e
  simpa using e
theorem rank_bits {n : Int} (h : InB n) : bits .xor .u64 (IntKind.u64.wrap (n * 2)) (IntKind.u64.wrap (n / 9223372036854775808)) = ((rank n : Nat) : Int) := by
  obtain ⟨h0, h1⟩ := h
  rw [IntKind.wrap_u64, IntKind.wrap_u64]
  rw [u64_xor _ _ (by omega) (by omega) (by omega) (by omega)]
  congr 1
  unfold rank
  by_cases hn : 0 ≤ n
  · rw [if_pos hn, show (n / 9223372036854775808 % 18446744073709551616).toNat = 0 from by omega, Nat.xor_zero]
    omega
  · rw [if_neg hn, show (n / 9223372036854775808 % 18446744073709551616).toNat = 18446744073709551615 from by omega, xor_ones _ (by omega)]
    omega
theorem or_128 : ∀ x : Fin 256, bits .or .u8 ((x.val : Nat) : Int) 128 = ((x.val % 128 + 128 : Nat) : Int) := by decide +kernel
theorem or_byte (r : Nat) : bits .or .u8 ((r % 256 : Nat) : Int) 128 = ((r % 128 + 128 : Nat) : Int) := by
  have h := or_128 ⟨r % 256, by omega⟩
  simp only at h
  rw [h]; congr 2; omega

theorem and_127' : ∀ x : Fin 256, bits .and .u8 ((x.val : Nat) : Int) 127 = ((x.val % 128 : Nat) : Int) := by decide +kernel
theorem and_127 {c : Nat} (h : c < 256) : bits .and .u8 ((c : Nat) : Int) 127 = ((c % 128 : Nat) : Int) := and_127' ⟨c, h⟩
theorem pow_seven (k : Nat) : 128 ^ k = 2 ^ (7 * k) := by rw [Nat.pow_mul]
theorem or_shift (v c k : Nat) (hv : v < 2 ^ k) : v ||| c * 2 ^ k = v + c * 2 ^ k := by
  have h := Nat.shiftLeft_add_eq_or_of_lt hv c
  rw [Nat.shiftLeft_eq] at h
  rw [Nat.or_comm, ← h, Nat.add_comm]
theorem pow_le_42 {k : Nat} (hk : k ≤ 5) : (2 : Nat) ^ (7 * k + 7) ≤ 4398046511104 := by
  have h : (4398046511104 : Nat) = 2 ^ 42 := by decide
  rw [h]
  exact Nat.pow_le_pow_right (by omega) (by omega)
theorem val_small (b : Nat → Nat) {k : Nat} (hk : k ≤ 5) : val b (k + 1) < 4398046511104 := by
  have h := val_lt b (k + 1)
  rw [pow_seven] at h
  exact Nat.lt_of_lt_of_le h (pow_le_42 hk)
/-- One byte more. -/
theorem read_or (b : Nat → Nat) {k : Nat} (hk : k ≤ 5) (hb : b k < 256) :
    bits .or .u64 ((val b k : Nat) : Int) (IntKind.u64.wrap (IntKind.u64.wrap (bits .and .u8 ((b k : Nat) : Int) 127) * 2 ^ (7 * k))) = ((val b (k + 1) : Nat) : Int) := by
  have h0 := val_lt b k
  have h1 := val_small b hk
  rw [pow_seven] at h0
  have e : val b (k + 1) = val b k + b k % 128 * 2 ^ (7 * k) := by rw [val, pow_seven]
  rw [e] at h1 ⊢
  rw [and_127 hb, IntKind.wrap_u64, IntKind.wrap_u64]
  have e2 : ((b k % 128 : Nat) : Int) % 18446744073709551616 = ((b k % 128 : Nat) : Int) := by omega
  rw [e2]
  have e3 : ((b k % 128 : Nat) : Int) * 2 ^ (7 * k) = ((b k % 128 * 2 ^ (7 * k) : Nat) : Int) := by rw [Int.natCast_mul, Int.natCast_pow]; rfl
  rw [e3]
  have e4 : ((b k % 128 * 2 ^ (7 * k) : Nat) : Int) % 18446744073709551616 = ((b k % 128 * 2 ^ (7 * k) : Nat) : Int) := by omega
  rw [e4, u64_or_nat _ _ (by omega) (by omega), or_shift _ _ _ h0]
theorem and_1 (v : Nat) (h : v < 18446744073709551616) : bits .and .u64 ((v : Nat) : Int) 1 = ((v % 2 : Nat) : Int) := by
  have := u64_and_nat v 1 h (by omega)
  rw [show ((1 : Nat) : Int) = 1 from rfl] at this
  rw [this, Nat.and_one_is_mod]
theorem xor_minus (x : Nat) (h : x < 4611686018427387904) : bits .xor .i64 ((x : Nat) : Int) (-1) = -1 - (x : Int) := by
  show IntKind.i64.wrap (((BitVec.ofInt 64 ((x : Nat) : Int) ^^^ BitVec.ofInt 64 (-1)).toNat : Nat) : Int) = _
  have e : BitVec.ofInt 64 (-1) = BitVec.allOnes 64 := by decide
  rw [e, BitVec.xor_allOnes, BitVec.toNat_not, BitVec.ofInt_natCast, BitVec.toNat_ofNat, Nat.mod_eq_of_lt (by omega), IntKind.wrap_i64]
  omega
theorem xor_nought (x : Nat) (h : x < 4611686018427387904) : bits .xor .i64 ((x : Nat) : Int) 0 = (x : Int) := by
  show IntKind.i64.wrap (((BitVec.ofInt 64 ((x : Nat) : Int) ^^^ BitVec.ofInt 64 0).toNat : Nat) : Int) = _
  have e : BitVec.ofInt 64 0 = 0#64 := by decide
  rw [e, BitVec.xor_zero, BitVec.ofInt_natCast, BitVec.toNat_ofNat, Nat.mod_eq_of_lt (by omega), IntKind.wrap_i64]
  omega
/-- The number of a rank. -/
theorem unrank_bits {v : Nat} (h : v < 4398046511104) :
    bits .xor .i64 (wrap64 ((v : Int) / 2)) (wrap64 (-wrap64 (bits .and .u64 ((v : Nat) : Int) 1))) = unrank v := by
  rw [and_1 v (by omega)]
  have e1 : wrap64 ((v : Int) / 2) = ((v / 2 : Nat) : Int) := by unfold wrap64; omega
  rw [e1]
  unfold unrank
  by_cases hv : v % 2 = 0
  · rw [if_pos hv, hv, show wrap64 (-wrap64 (((0 : Nat)) : Int)) = 0 from by unfold wrap64; omega, xor_nought _ (by omega)]
  · have h1 : v % 2 = 1 := by omega
    rw [if_neg hv, h1, show wrap64 (-wrap64 (((1 : Nat)) : Int)) = -1 from by unfold wrap64; omega, xor_minus _ (by omega)]
end Go.Proofs.Ytkblladjabpllaa
