/- The first examples. -/
import Derived.Test.YtkblladjabpllaaB6
namespace Go.Proofs.Ytkblladjabpllaa
open Go.RowKit
set_option linter.unusedVariables false

theorem BS.of_blk {w : World} {g : Nat} {cs : Array Value} (h : HasBlk w g 5 cs) (l : List Nat) (hl : cs = (l.map bv).toArray) : BS w (some ⟨g, 0, none⟩) l.length (fun i => l.getD i 0) := by
  intro hn
  refine ⟨g, 0, rfl, h.lt, fun i hi => ?_⟩
  rw [Nat.zero_add, h.cell, hl]
  simp [bv, List.getD, hi]

set_option maxRecDepth 100000 in
set_option maxHeartbeats 1000000 in
theorem is_true (n : Int) (A : Option Addr) (L c : Nat) (w : World) (hn : InB n) (hL : (enc 6 (rank n)).length = L) (hs : BS w A L (fun i => (enc 6 (rank n)).getD i 0)) :
    Calls Try.prog 23 #[.int .i64 n, .slice A L c] w fun e w' => e = .returned (.bool true) ∧ Below w.heap.size w w' := by
  have c8 := Lib.hid (num8_calls n)
  have Hs := Lib.hid hs
  clear hs
  go_enter Try.func23, Try.ntmps23
  go_wp2_with fail
  refine (c8.out _).mono ?_
  rintro e w2 ⟨hx, bel2⟩
  rcases hx with ⟨hin, rfl⟩ | ⟨hin, X, cx, rfl, hbx⟩
  · exact absurd hn hin
  · have k1 := conv_bytes (c := cx) (BS.of_bytes hbx)
    have k2 := conv_bytes (c := c) (Hs.out.below bel2)
    clear hbx Hs c8
    rw [hL] at k1
    rw [hL]
    generalize strB L _ = st at *
    clear hL
    go_wp2
    go_ret
    exact ⟨rfl, bel2⟩

set_option maxRecDepth 100000 in
set_option maxHeartbeats 1000000 in
theorem alive_any (w : World) : Calls Try.prog 12 #[] w fun e w' => e = .returned (.bool true) ∧ Below w.heap.size w w' := by
  have his := Lib.hid is_true
  have e0 : enc 6 (rank 0) = [0] := by decide
  have b0 : InB 0 := by decide
  have E0 := Lib.hid e0
  have B0 := Lib.hid b0
  clear e0 b0
  have e1 : enc 6 (rank (-1)) = [1] := by decide
  have b1 : InB (-1) := by decide
  have E1 := Lib.hid e1
  have B1 := Lib.hid b1
  clear e1 b1
  have e2 : enc 6 (rank 63) = [126] := by decide
  have b2 : InB 63 := by decide
  have E2 := Lib.hid e2
  have B2 := Lib.hid b2
  clear e2 b2
  have e3 : enc 6 (rank (-64)) = [127] := by decide
  have b3 : InB (-64) := by decide
  have E3 := Lib.hid e3
  have B3 := Lib.hid b3
  clear e3 b3
  have e4 : enc 6 (rank 64) = [128, 1] := by decide
  have b4 : InB 64 := by decide
  have E4 := Lib.hid e4
  have B4 := Lib.hid b4
  clear e4 b4
  go_enter Try.func12, Try.ntmps12
  go_wp2_with fail
  refine (his.out 0 _ 1 _ _ B0.out (by rw [E0.out]; rfl) (by rw [E0.out]; exact BS.of_blk (hasBlk_new _ _ _) [0] rfl)).mono ?_
  rintro e w1 ⟨rfl, bel1⟩
  have z1 : w.heap.size < w1.heap.size := by have := bel1.size; simp at this; omega
  have bel1' := Lib.hid ((Below.refl w.heap.size w).alloc (Nat.le_refl _) _ |>.trans (bel1.mono (by simp)))
  clear bel1
  go_wp2_with fail
  refine (his.out (-1) _ 1 _ _ B1.out (by rw [E1.out]; rfl) (by rw [E1.out]; exact BS.of_blk (hasBlk_new _ _ _) [1] rfl)).mono ?_
  rintro e w2 ⟨rfl, bel2⟩
  have z2 : w1.heap.size < w2.heap.size := by have := bel2.size; simp at this; omega
  have bel2' := Lib.hid ((Below.refl w1.heap.size w1).alloc (Nat.le_refl _) _ |>.trans (bel2.mono (by simp)))
  clear bel2
  go_wp2_with fail
  refine (his.out 63 _ 1 _ _ B2.out (by rw [E2.out]; rfl) (by rw [E2.out]; exact BS.of_blk (hasBlk_new _ _ _) [126] rfl)).mono ?_
  rintro e w3 ⟨rfl, bel3⟩
  have z3 : w2.heap.size < w3.heap.size := by have := bel3.size; simp at this; omega
  have bel3' := Lib.hid ((Below.refl w2.heap.size w2).alloc (Nat.le_refl _) _ |>.trans (bel3.mono (by simp)))
  clear bel3
  go_wp2_with fail
  refine (his.out (-64) _ 1 _ _ B3.out (by rw [E3.out]; rfl) (by rw [E3.out]; exact BS.of_blk (hasBlk_new _ _ _) [127] rfl)).mono ?_
  rintro e w4 ⟨rfl, bel4⟩
  have z4 : w3.heap.size < w4.heap.size := by have := bel4.size; simp at this; omega
  have bel4' := Lib.hid ((Below.refl w3.heap.size w3).alloc (Nat.le_refl _) _ |>.trans (bel4.mono (by simp)))
  clear bel4
  go_wp2_with fail
  refine (his.out 64 _ 2 _ _ B4.out (by rw [E4.out]; rfl) (by rw [E4.out]; exact BS.of_blk (hasBlk_new _ _ _) [128, 1] rfl)).mono ?_
  rintro e w5 ⟨rfl, bel5⟩
  have z5 : w4.heap.size < w5.heap.size := by have := bel5.size; simp at this; omega
  have bel5' := Lib.hid ((Below.refl w4.heap.size w4).alloc (Nat.le_refl _) _ |>.trans (bel5.mono (by simp)))
  clear bel5
  go_wp2
  go_ret
  refine ⟨rfl, ?_⟩
  exact ((((bel1'.out.trans (bel2'.out.mono (by omega))).trans (bel3'.out.mono (by omega))).trans (bel4'.out.mono (by omega))).trans (bel5'.out.mono (by omega)))
end Go.Proofs.Ytkblladjabpllaa
