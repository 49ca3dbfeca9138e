/- BytesNames. -/
import Derived.Test.YtkblladjabpllaaB11
namespace Go.Proofs.Ytkblladjabpllaa
open Go.RowKit
set_option linter.unusedVariables false
theorem lres_ok' {n : Nat} {l : Nat → Int} (hn : n ≤ 65536) (hin : ∀ i, i < n → InB (l i)) : lres n l = (lst l n n, 0) := by
  unfold lres; rw [if_neg (by omega), if_neg (fun ⟨i, hi, hn⟩ => hn (hin i hi))]
theorem IS.of_blk {w : World} {g : Nat} {cs : Array Value} (h : HasBlk w g 3 cs) (l : List Int) (hl : cs = (l.map iv).toArray) : IS w (some ⟨g, 0, none⟩) l.length (fun i => l.getD i 0) := by
  intro hn
  refine ⟨g, 0, rfl, h.lt, fun i hi => ?_⟩
  rw [Nat.zero_add, h.cell, hl]
  simp [iv, List.getD, hi]
theorem getD_byte (l : List Nat) (h : ∀ x ∈ l, x < 256) (i : Nat) : l.getD i 0 < 256 := by
  rcases Nat.lt_or_ge i l.length with hi | hi
  · rw [List.getD_eq_getElem?_getD, List.getElem?_eq_getElem hi]
    exact h _ (List.getElem_mem hi)
  · rw [List.getD_eq_getElem?_getD, List.getElem?_eq_none hi]; decide
set_option maxRecDepth 100000 in
set_option maxHeartbeats 1000000 in
theorem bad_true (A : Option Addr) (n c : Nat) (b : Nat → Nat) (w : World) (hs : BS w A n b) (hb : ∀ i, b i < 256) (hn : n ≤ 9223372036854775807) (hr : rd b n = (0, 0, 8)) :
    Calls Try.prog 18 #[.slice A n c] w fun e w' => e = .returned (.bool true) ∧ w = w' := by
  have h := Lib.hid (read_any A n c b w hs hb (by omega))
  rw [hr] at h
  clear hs hb hr
  go_enter Try.func18, Try.ntmps18
  go_wp2_with fail
  refine h.out.mono ?_
  rintro e w' ⟨rfl, rfl⟩
  go_wp2
  go_ret
  exact ⟨rfl, rfl⟩
theorem bs_new (w : World) (l : List Nat) : BS (w.alloc (.cells (l.map bv).toArray 5)) (some ⟨w.heap.size, 0, none⟩) l.length (fun i => l.getD i 0) := BS.of_blk (hasBlk_new _ _ _) l rfl
set_option maxRecDepth 100000 in
set_option maxHeartbeats 4000000 in
theorem bytesNames_arg (w : World) : Calls Try.prog 6 #[] w fun e w' => e = .returned (.bool true) ∧ Below w.heap.size w w' := by
  have e1 : lres 2 (fun i => [(1 : Int), -1].getD i 0) = ([4, 2, 1], 0) := by
    rw [lres_ok' (by decide) (by intro i hi; have : i = 0 ∨ i = 1 := by omega
                                 rcases this with rfl | rfl <;> decide)]
    decide
  have e2 : rdList (fun i => [4, 2, 1, 9].getD i 0) 4 2 = ([1, -1], 3, 0) := by decide
  have e3 : rdList (fun i => [4, 2, 1, 9].getD i 0) 4 1 = ([], 0, 8) := by decide
  have e5 : rdList (fun _ => 0) 0 (-1) = ([], 0, 2) := by decide
  have r1 : rd (fun i => [128, 0].getD i 0) 2 = (0, 0, 8) := by decide
  have r2 : rd (fun i => [128].getD i 0) 1 = (0, 0, 8) := by decide
  have r3 : rd (fun _ => 0) 0 = (0, 0, 8) := by decide
  have E1 := Lib.hid e1
  have E2 := Lib.hid e2
  have E3 := Lib.hid e3
  have E5 := Lib.hid e5
  have R1 := Lib.hid r1
  have R2 := Lib.hid r2
  have R3 := Lib.hid r3
  clear e1 e2 e3 e5 r1 r2 r3
  go_enter Try.func6, Try.ntmps6
  go_wp2_with fail
  refine (list13_calls (some ⟨w.heap.size, 0, none⟩) 2 2 (fun i => [(1 : Int), -1].getD i 0) _ (IS.of_blk (hasBlk_new _ _ _) [1, -1] rfl) (by decide)).mono ?_
  rintro e w1 ⟨hx, bel1⟩
  obtain ⟨X, cx, rfl, hX⟩ := hx.res
  rw [E1.out] at hX ⊢
  have X1 := Lib.hid (BS.of_bytes hX)
  have z1 : w.heap.size < w1.heap.size := by have := bel1.size; simp at this; omega
  have B1 := Lib.hid (((Below.refl w.heap.size w).alloc (Nat.le_refl _) _).trans (bel1.mono (by simp)))
  clear hX hx bel1
  dsimp only at X1
  go_wp2_with fail
  refine (readlist_calls (some ⟨w1.heap.size, 0, none⟩) 4 4 (fun i => [4, 2, 1, 9].getD i 0) 2 _ (BS.of_blk (hasBlk_new _ _ _) [4, 2, 1, 9] rfl) (getD_byte _ (by decide)) (by decide) (by decide)).mono ?_
  rintro e w2 ⟨hx, bel2⟩
  rw [E2.out] at hx
  obtain ⟨M, cm, rfl, hM⟩ := hx
  have M2 := Lib.hid (IS.of_own hM (fun i => [(1 : Int), -1].getD i 0) (fun i hi => by
    have hi' : i < 2 := hi
    have : i = 0 ∨ i = 1 := by omega
    rcases this with rfl | rfl <;> rfl))
  have bel2' := ((Below.refl w1.heap.size w1).alloc (Nat.le_refl _) _).trans (bel2.mono (by simp))
  have z2 : w1.heap.size < w2.heap.size := by have := bel2.size; simp at this; omega
  have B2 := Lib.hid (B1.out.trans (bel2'.mono (by omega)))
  have X2 := Lib.hid (X1.out.below bel2')
  clear hM bel2 bel2' B1 X1
  go_wp2_with fail
  refine (readlist_calls (some ⟨w2.heap.size, 0, none⟩) 4 4 (fun i => [4, 2, 1, 9].getD i 0) 1 _ (BS.of_blk (hasBlk_new _ _ _) [4, 2, 1, 9] rfl) (getD_byte _ (by decide)) (by decide) (by decide)).mono ?_
  rintro e w3 ⟨hx, bel3⟩
  rw [E3.out] at hx
  obtain ⟨M', cm', rfl, hM⟩ := hx
  have bel3' := ((Below.refl w2.heap.size w2).alloc (Nat.le_refl _) _).trans (bel3.mono (by simp))
  have z3 : w2.heap.size < w3.heap.size := by have := bel3.size; simp at this; omega
  have B3 := Lib.hid (B2.out.trans (bel3'.mono (by omega)))
  have X3 := Lib.hid (X2.out.below bel3')
  have M3 := Lib.hid (M2.out.below bel3')
  clear hM bel3 bel3' B2 X2 M2
  go_wp2_with fail
  refine (num8_calls 1099511627777 _).mono ?_
  rintro e w4 ⟨hx, bel4⟩
  rcases hx with ⟨hin, rfl⟩ | ⟨hin, _⟩
  case inr => exact absurd hin (by decide)
  have z4 := bel4.size
  have B4 := Lib.hid (B3.out.trans (bel4.mono (by omega)))
  have X4 := Lib.hid (X3.out.below bel4)
  have M4 := Lib.hid (M3.out.below bel4)
  clear bel4 B3 X3 M3 hin
  go_wp2_with fail
  refine (readlist_calls none 0 0 (fun _ => 0) (-1) _ (fun h => absurd h (by decide)) (fun _ => by decide) (by decide) (by decide)).mono ?_
  rintro e w5 ⟨hx, bel5⟩
  rw [E5.out] at hx
  obtain ⟨M'', cm'', rfl, hM⟩ := hx
  have z5 := bel5.size
  have B5 := Lib.hid (B4.out.trans (bel5.mono (by omega)))
  have X5 := X4.out.below bel5
  have M5 := M4.out.below bel5
  clear bel5 B4 X4 M4 hM
  have X6 := X5.below ((Below.refl w5.heap.size w5).alloc (Nat.le_refl _) (.cells #[.int .u8 4, .int .u8 2, .int .u8 1] 5))
  have k0 := conv_bytes (c := cx) X5
  have k1 := conv_bytes (c := cx) X6
  have k2 := conv_bytes (c := 3) (bs_new w5 [4, 2, 1])
  obtain ⟨g, off, rfl, hg, hc⟩ := M5 (by decide)
  have m0 : w5.cell? ⟨g, off, none⟩ = some (.int .i64 1) := hc 0 (by decide)
  have m1 : w5.cell? ⟨g, off + 1, none⟩ = some (.int .i64 (-1)) := hc 1 (by decide)
  have ef : ([4, 2, 1].map bv).toArray = #[.int .u8 4, .int .u8 2, .int .u8 1] := rfl
  rw [ef] at k2
  clear ef X5 X6 M5 hc
  have eL : [4, 2, 1].length = 3 := rfl
  rw [eL] at k0 k1 k2
  generalize strB 3 _ = st at *
  clear eL
  go_wp2_with fail
  refine (alive_any _).mono ?_
  rintro e w6 ⟨rfl, bel6⟩
  have bel6' := ((Below.refl w5.heap.size w5).alloc (Nat.le_refl _) _).trans (bel6.mono (by simp))
  have z6 : w5.heap.size < w6.heap.size := by have := bel6.size; simp at this; omega
  have B6 := Lib.hid (B5.out.trans (bel6'.mono (by omega)))
  clear bel6 bel6' B5 k0 k1 k2 m0 m1
  go_wp2_with fail
  have cb1 : BS (w6.alloc (.cells #[.int .u8 128, .int .u8 0] 5)) (some ⟨w6.heap.size, 0, none⟩) 2 (fun i => [128, 0].getD i 0) := BS.of_blk (hasBlk_new _ _ _) [128, 0] rfl
  have cc1 := bad_true (some ⟨w6.heap.size, 0, none⟩) 2 2 (fun i => [128, 0].getD i 0) _ cb1 (getD_byte [128, 0] (by decide)) (by decide) R1.out
  refine cc1.mono ?_
  clear cb1 cc1
  rintro e w7 ⟨rfl, rfl⟩
  go_wp2_with fail
  have hb2 : HasBlk ((w6.alloc (.cells #[.int .u8 128, .int .u8 0] 5)).alloc (.cells #[.int .u8 128] 5)) (w6.heap.size + 1) 5 #[.int .u8 128] := by
    have := hasBlk_new (w6.alloc (.cells #[.int .u8 128, .int .u8 0] 5)) 5 #[.int .u8 128]
    simpa using this
  have cb2 : BS ((w6.alloc (.cells #[.int .u8 128, .int .u8 0] 5)).alloc (.cells #[.int .u8 128] 5)) (some ⟨w6.heap.size + 1, 0, none⟩) 1 (fun i => [128].getD i 0) := BS.of_blk hb2 [128] rfl
  have cc2 := bad_true (some ⟨w6.heap.size + 1, 0, none⟩) 1 1 (fun i => [128].getD i 0) _ cb2 (getD_byte [128] (by decide)) (by decide) R2.out
  refine cc2.mono ?_
  clear cb2 cc2 hb2
  rintro e w8 ⟨rfl, rfl⟩
  go_wp2_with fail
  refine (bad_true none 0 0 (fun _ => 0) _ (fun h => absurd h (by decide)) (fun _ => by decide) (by decide) R3.out).mono ?_
  rintro e w9 ⟨rfl, rfl⟩
  go_wp2
  go_ret
  refine ⟨rfl, ?_⟩
  have B7 := B6.out
  repeat' (first | exact Below.refl _ _ | assumption | apply Below.drew | refine Below.setCell ?_ (by first | omega | (simp; done) | (simp; omega)) _ | refine Below.alloc ?_ (by first | omega | (simp; done) | (simp; omega)) _)
end Go.Proofs.Ytkblladjabpllaa
