/- MeshPrim. -/
import Derived.Test.YtkclkillphafkaaM4
import Derived.Test.YtkclkillphafkaaRd
namespace Go.Proofs.Ytkclkillphafkaa
open Go.RowKit
set_option linter.unusedVariables false


set_option maxRecDepth 100000 in
set_option maxHeartbeats 2000000 in
theorem meshPrim_walk (k : Int) (h0 : 0 ≤ k) (n : Nat) (A : Option Addr) (c : Nat) (l : Nat → Int) (w : World) (hs : IS w A n l) :
    Calls Try.prog 3 #[.agg #[.int .u8 k, .slice A n c]] w fun e w' => e = .returned (.bool true) ∧ Below w.heap.size w w' := by
  by_cases hn : 1000 < n
  · go_enter Try.func3, Try.ntmps3
    go_wp2
    go_ret
    exact ⟨rfl, by repeat' (first | exact Below.refl _ _ | assumption | apply Below.drew | refine Below.setCell ?_ (by first | omega | (simp; done) | (simp; omega)) _ | refine Below.alloc ?_ (by first | omega | (simp; done) | (simp; omega)) _)⟩
  have HS := Lib.hid hs
  have hn' : (n : Int) ≤ 1000 := by omega
  obtain ⟨i0, hi0, hz0, hz1, hz2⟩ := info_parts int_info
  clear hs hn
  go_enter Try.func3, Try.ntmps3
  go_wp2_with (at_builtin; refine wpList_app rfl (.tmp 16) (.tmp 18) 22 rfl w.heap.size 3 i0 _ 1 8 Try.underlying22 hi0 hz0 hz1 hz2 rfl (by omega) none 0 0 [] rfl (own_nil _ _ _ _) A n c (cellsI n l) rfl (by simp [cellsI]) ((IS.below HS.out (by repeat' (first | exact Below.refl _ _ | assumption | apply Below.drew | refine Below.setCell ?_ (by first | omega | (simp; done) | (simp; omega)) _ | refine Below.alloc ?_ (by first | omega | (simp; done) | (simp; omega)) _))).news) (cellsI_one n l) (by unfold maxLen; omega) (by omega) (by simp; omega) ?_; intro A1 c1 w1 hown1 hgr1; simp only [Nat.zero_add, List.nil_append] at hown1 ⊢; have hp1 := ((hasBlk_new w 24 #[.int .u8 k, .slice A n c]).alloc (.cells #[.int .u8 k, .slice none 0 0] 24)).grown hgr1 (by simp [Value.ownBlock]); have hq1 := (hasBlk_new (w.alloc (.cells #[.int .u8 k, .slice A n c] 24)) 24 #[.int .u8 k, .slice none 0 0]).grown hgr1 (by simp [Value.ownBlock]); have bel1 := ((by repeat' (first | exact Below.refl _ _ | assumption | apply Below.drew | refine Below.setCell ?_ (by first | omega | (simp; done) | (simp; omega)) _ | refine Below.alloc ?_ (by first | omega | (simp; done) | (simp; omega)) _) : Below w.heap.size w ((w.alloc (.cells #[.int .u8 k, .slice A n c] 24)).alloc (.cells #[.int .u8 k, .slice none 0 0] 24)))).grown hgr1 (by simp; omega) (by simp [Value.ownBlock]); simp only [World.size_alloc] at hq1; have a0 := hq1.cell 0; have a1 := hq1.cell 1; have af := hq1.frozen 1; have b0 := hp1.cell 0; have b1 := hp1.cell 1; have Hp1 := Lib.hid hp1; have Hq1 := Lib.hid hq1; have Hown := Lib.hid hown1; clear hp1 hq1 hown1 hgr1; simp at a0 a1 b0 b1)
  have hq2 : HasBlk (w1.setCell ⟨w.heap.size + 1, 1, none⟩ (.slice A1 n c1)) (w.heap.size + 1) 24 #[.int .u8 k, .slice A1 n c1] := by
    have := Hq1.out.set 1 (.slice A1 n c1)
    simpa using this
  have hp2 := Hp1.out.far (p := ⟨w.heap.size + 1, 1, none⟩) (by simp) (.slice A1 n c1)
  have I2 : IS (w1.setCell ⟨w.heap.size + 1, 1, none⟩ (.slice A1 n c1)) A1 n l := IS.of_cells (ownsRow_setCell_other Hown.out (Hq1.out.ne_own Hown.out (by decide)) _)
  have bel2 := bel1.setCell (p := ⟨w.heap.size + 1, 1, none⟩) (by simp) (.slice A1 n c1)
  have J2 := HS.out.below bel2
  clear Hp1 Hq1 Hown a0 a1 b0 b1 af bel1 HS
  generalize w1.setCell ⟨w.heap.size + 1, 1, none⟩ (.slice A1 n c1) = w2 at *
  have q0 := hq2.cell 0
  have q1 := hq2.cell 1
  have z2 := hq2.lt
  simp at q0 q1
  refine (prim9_any k h0 n A1 c1 l _ I2).mono ?_
  rintro e w3 ⟨hx, bel3⟩
  obtain ⟨X, m, cx, rfl, hm, hX⟩ := hx.res
  have hp3 := hp2.below bel3
  have hq3 := hq2.below bel3
  have Q3 := Lib.hid hq3
  have P3 := Lib.hid hp3
  have I3 := Lib.hid (I2.below bel3)
  have J3 := Lib.hid (J2.below bel3)
  have z3 := bel3.size
  have B3 := Lib.hid (bel2.trans (bel3.mono (by omega)))
  have X3 := Lib.hid hX
  have Hm := Lib.hid hm
  have b0 := hp3.cell 0
  have b1 := hp3.cell 1
  simp at b0 b1
  clear hp3 hq3 hp2 hq2 I2 J2 bel2 bel3 hX hm hx q0 q1
  go_wp2_with fail
  refine (prim10_any k h0 n A c l _ J3.out).mono ?_
  rintro e w4 ⟨hx, bel4⟩
  obtain ⟨Y, m', cy, rfl, hm', hY⟩ := hx.res
  obtain rfl : m' = m := by rw [hm', Hm.out]
  have hX4 := own_below X3.out bel4
  obtain ⟨_, _, e1, hc1, hc2, _⟩ := own_at hY
  have hml : m' ≤ 9223372036854775807 := by unfold maxLen at hc2; omega
  have FX := Lib.hid (Row.of_cells hX4)
  have FY := Lib.hid (Row.of_cells hY)
  have hp4 := P3.out.below bel4
  have hq4 := Q3.out.below bel4
  have Q4 := Lib.hid hq4
  have P4 := Lib.hid hp4
  have I4 := Lib.hid (I3.out.below bel4)
  have J4 := Lib.hid (J3.out.below bel4)
  have z4 := bel4.size
  have B4 := Lib.hid (B3.out.trans (bel4.mono (by omega)))
  clear hp4 hq4 hX4 hY bel4 hx hm' Hm e1 hc1 hc2 P3 Q3 I3 J3 B3 X3 b0 b1
  generalize pcode k n = pc at *
  go_wp2_with fail
  refine (sametris_true X Y m' cx cy (tri k l) (tri k l) _ FX.out FY.out hml (fun _ _ _ _ => rfl)).mono ?_
  rintro e w5 ⟨rfl, bel5⟩
  have hp5 := P4.out.below bel5
  have hq5 := Q4.out.below bel5
  have I5 := Lib.hid (I4.out.below bel5)
  have J5 := Lib.hid (J4.out.below bel5)
  have z5 := bel5.size
  have B5 := Lib.hid (B4.out.trans (bel5.mono (by omega)))
  have b0 := hp5.cell 0
  have b1 := hp5.cell 1
  have q0 := hq5.cell 0
  have q1 := hq5.cell 1
  simp at b0 b1 q0 q1
  clear hp5 hq5 bel5 P4 Q4 I4 J4 B4 FX FY
  go_wp2_with fail
  refine (numbers_true _ _ n _ _ l l _ I5.out J5.out (by omega) (fun _ _ => rfl)).mono ?_
  rintro e w6 ⟨rfl, bel6⟩
  go_wp2
  go_ret
  exact ⟨rfl, B5.out.trans (bel6.mono (by omega))⟩

theorem cells5 : Try.prog.cellsOf 5 = 1 := by kernel_rfl
theorem cells3 : Try.prog.cellsOf 3 = 1 := by kernel_rfl
theorem cells22 : Try.prog.cellsOf 22 = 1 := by kernel_rfl
theorem cells24 : Try.prog.cellsOf 24 = 2 := by kernel_rfl
/-- Cells that are a primitive. -/
theorem rd_prim {w : World} {cs : List Value} (hr : Rd Try.prog w 24 cs) : ∃ k A n c l, cs = [.int .u8 k, .slice A n c] ∧ (0 ≤ k ∧ k ≤ 255) ∧ (n ≤ c ∧ c ≤ maxLen) ∧ (∀ i, -9223372036854775808 ≤ l i ∧ l i ≤ 9223372036854775807) ∧ IS w A n l := by
  obtain ⟨hl, hf⟩ := hr.struct Try.underlying24
  rw [cells24] at hl
  match cs, hl with
  | [x, y], _ =>
    obtain ⟨k, e0, hk⟩ := Rd.int Try.underlying5 (hf 0 _ rfl)
    obtain ⟨A, n, c, l, e1, h1⟩ := rd_ints Try.underlying22 Try.underlying3 cells3 (hf 1 _ rfl)
    simp [cells5, cells22] at e0 e1
    subst e0 e1
    exact ⟨k, A, n, c, l, rfl, u8_bounds hk, h1⟩
theorem arg_prim {w : World} {v : Value} (h : Arg Try.prog w 24 v) : ∃ k A n c l, v = .agg #[.int .u8 k, .slice A n c] ∧ (0 ≤ k ∧ k ≤ 255) ∧ (n ≤ c ∧ c ≤ maxLen) ∧ (∀ i, -9223372036854775808 ≤ l i ∧ l i ≤ 9223372036854775807) ∧ IS w A n l := by
  obtain ⟨cs, rfl, hl, hr⟩ := h.struct Try.underlying24
  obtain ⟨k, A, n, c, l, rfl, hh⟩ := rd_prim hr
  exact ⟨k, A, n, c, l, rfl, hh⟩
theorem meshPrim_arg (v0 : Value) (w : World) (h0 : Arg Try.prog w 24 v0) : Calls Try.prog 3 #[v0] w fun e w' => e = .returned (.bool true) ∧ Below w.heap.size w w' := by
  obtain ⟨k, A, n, c, l, rfl, hk, _, _, hs⟩ := arg_prim h0
  exact meshPrim_walk k hk.1 n A c l w hs
end Go.Proofs.Ytkclkillphafkaa
