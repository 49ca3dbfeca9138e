/- top: a box, turned. -/
import Derived.Test.YtemopgpcpjnmkaaDoorT5
namespace Go.Proofs.YtemopgpcpjnmkaaDoor
open Go.RowKit
set_option linter.unusedVariables false
theorem mul_bd {k a : Int} (hk : Wi k (-256) 256) (ha : Wi a (-10000) 10000) : -2560000 ≤ k * a ∧ k * a ≤ 2560000 := by
  obtain ⟨h1, h2⟩ := hk
  obtain ⟨h3, h4⟩ := ha
  rcases Int.le_total 0 k with h | h
  · have := Int.mul_le_mul_of_nonneg_left h3 h
    have := Int.mul_le_mul_of_nonneg_left h4 h
    omega
  · have := Int.mul_le_mul_of_nonpos_left h h3
    have := Int.mul_le_mul_of_nonpos_left h h4
    omega
theorem t_bd {k a b : Int} (hk : Wi k (-256) 256) (ha : Wi a (-10000) 10000) (hb : Wi b (-10000) 10000) (hab : a ≤ b) : -2560000 ≤ tlo k a b ∧ tlo k a b ≤ thi k a b ∧ thi k a b ≤ 2560000 := by
  have k1 := mul_bd hk ha
  have k2 := mul_bd hk hb
  refine ⟨?_, Int.le_trans (tlo_le (Int.le_refl a) hab) (le_thi (Int.le_refl a) hab), ?_⟩
  · unfold tlo; split <;> omega
  · unfold thi; split <;> omega
theorem add0_ok (c d : Int) (k : SpOk c d) (w : World) : Calls Tryd.prog 40 #[.agg #[.int .i64 0, .int .i64 0], .agg #[.int .i64 c, .int .i64 d]] w fun e w' => e = .returned (.tuple #[.agg #[.int .i64 c, .int .i64 d], .int .i64 0]) ∧ Below w.heap.size w w' := by
  have h := add_ok 0 0 c d (by unfold SpOk; omega) k (by rw [Int.zero_add, Int.zero_add]; exact k) w
  rw [Int.zero_add, Int.zero_add] at h
  exact h
theorem ixm_row0 (m : Nat → Int) (W : World) : (Instr.index 29 (.agg #[.int .i64 (m 0), .int .i64 (m 1), .int .i64 (m 2), .int .i64 (m 3), .int .i64 (m 4), .int .i64 (m 5), .int .i64 (m 6), .int .i64 (m 7), .int .i64 (m 8)]) (.int .i64 0)).run Tryd.prog W = .ok (.agg #[.int .i64 (m 0), .int .i64 (m 1), .int .i64 (m 2)]) W := by kernel_rfl
theorem ixm_row1 (m : Nat → Int) (W : World) : (Instr.index 29 (.agg #[.int .i64 (m 0), .int .i64 (m 1), .int .i64 (m 2), .int .i64 (m 3), .int .i64 (m 4), .int .i64 (m 5), .int .i64 (m 6), .int .i64 (m 7), .int .i64 (m 8)]) (.int .i64 1)).run Tryd.prog W = .ok (.agg #[.int .i64 (m 3), .int .i64 (m 4), .int .i64 (m 5)]) W := by kernel_rfl
theorem ixm_row2 (m : Nat → Int) (W : World) : (Instr.index 29 (.agg #[.int .i64 (m 0), .int .i64 (m 1), .int .i64 (m 2), .int .i64 (m 3), .int .i64 (m 4), .int .i64 (m 5), .int .i64 (m 6), .int .i64 (m 7), .int .i64 (m 8)]) (.int .i64 2)).run Tryd.prog W = .ok (.agg #[.int .i64 (m 6), .int .i64 (m 7), .int .i64 (m 8)]) W := by kernel_rfl

set_option maxRecDepth 100000 in
set_option maxHeartbeats 32000000 in
theorem turned_ok (m : Nat → Int) (a0 a1 a2 b0 b1 b2 : Int) (hm : ∀ q, q < 9 → Wi (m q) (-256) 256) (hb : (Wi a0 (-10000) 10000 ∧ Wi b0 (-10000) 10000 ∧ a0 ≤ b0) ∧ (Wi a1 (-10000) 10000 ∧ Wi b1 (-10000) 10000 ∧ a1 ≤ b1) ∧ (Wi a2 (-10000) 10000 ∧ Wi b2 (-10000) 10000 ∧ a2 ≤ b2)) (w : World) : Calls Tryd.prog 26 #[.agg #[.int .i64 (m 0), .int .i64 (m 1), .int .i64 (m 2), .int .i64 (m 3), .int .i64 (m 4), .int .i64 (m 5), .int .i64 (m 6), .int .i64 (m 7), .int .i64 (m 8)], .agg #[.int .i64 a0, .int .i64 a1, .int .i64 a2, .int .i64 b0, .int .i64 b1, .int .i64 b2]] w fun e w' => e = .returned (.tuple #[.agg #[.int .i64 ((tlo (m 0) a0 b0 + tlo (m 1) a1 b1 + tlo (m 2) a2 b2) / 256), .int .i64 ((tlo (m 3) a0 b0 + tlo (m 4) a1 b1 + tlo (m 5) a2 b2) / 256), .int .i64 ((tlo (m 6) a0 b0 + tlo (m 7) a1 b1 + tlo (m 8) a2 b2) / 256), .int .i64 ((thi (m 0) a0 b0 + thi (m 1) a1 b1 + thi (m 2) a2 b2) / 256), .int .i64 ((thi (m 3) a0 b0 + thi (m 4) a1 b1 + thi (m 5) a2 b2) / 256), .int .i64 ((thi (m 6) a0 b0 + thi (m 7) a1 b1 + thi (m 8) a2 b2) / 256)], .int .i64 0]) ∧ Below w.heap.size w w' := by
  have HM := Lib.hid hm
  have HBX := Lib.hid hb
  have HB := Lib.hid (show Below w.heap.size w (((w.alloc (.cells #[.int .i64 (m 0), .int .i64 (m 1), .int .i64 (m 2), .int .i64 (m 3), .int .i64 (m 4), .int .i64 (m 5), .int .i64 (m 6), .int .i64 (m 7), .int .i64 (m 8)] 29)).alloc (.cells #[.int .i64 a0, .int .i64 a1, .int .i64 a2, .int .i64 b0, .int .i64 b1, .int .i64 b2] 50)).alloc (.cells #[.int .i64 0, .int .i64 0, .int .i64 0, .int .i64 0, .int .i64 0, .int .i64 0] 50)) by
    repeat' (first | exact Below.refl _ _ | refine Below.alloc ?_ (by first | omega | (simp; done) | (simp; omega)) _))
  have P2 := Lib.hid (show HasBlk (((w.alloc (.cells #[.int .i64 (m 0), .int .i64 (m 1), .int .i64 (m 2), .int .i64 (m 3), .int .i64 (m 4), .int .i64 (m 5), .int .i64 (m 6), .int .i64 (m 7), .int .i64 (m 8)] 29)).alloc (.cells #[.int .i64 a0, .int .i64 a1, .int .i64 a2, .int .i64 b0, .int .i64 b1, .int .i64 b2] 50)).alloc (.cells #[.int .i64 0, .int .i64 0, .int .i64 0, .int .i64 0, .int .i64 0, .int .i64 0] 50)) w.heap.size 29 #[.int .i64 (m 0), .int .i64 (m 1), .int .i64 (m 2), .int .i64 (m 3), .int .i64 (m 4), .int .i64 (m 5), .int .i64 (m 6), .int .i64 (m 7), .int .i64 (m 8)] from ((hasBlk_new w 29 #[.int .i64 (m 0), .int .i64 (m 1), .int .i64 (m 2), .int .i64 (m 3), .int .i64 (m 4), .int .i64 (m 5), .int .i64 (m 6), .int .i64 (m 7), .int .i64 (m 8)]).alloc _).alloc _)
  have P3 := Lib.hid (show HasBlk (((w.alloc (.cells #[.int .i64 (m 0), .int .i64 (m 1), .int .i64 (m 2), .int .i64 (m 3), .int .i64 (m 4), .int .i64 (m 5), .int .i64 (m 6), .int .i64 (m 7), .int .i64 (m 8)] 29)).alloc (.cells #[.int .i64 a0, .int .i64 a1, .int .i64 a2, .int .i64 b0, .int .i64 b1, .int .i64 b2] 50)).alloc (.cells #[.int .i64 0, .int .i64 0, .int .i64 0, .int .i64 0, .int .i64 0, .int .i64 0] 50)) (w.heap.size + 1) 50 #[.int .i64 a0, .int .i64 a1, .int .i64 a2, .int .i64 b0, .int .i64 b1, .int .i64 b2] by simpa using (hasBlk_new (w.alloc (.cells #[.int .i64 (m 0), .int .i64 (m 1), .int .i64 (m 2), .int .i64 (m 3), .int .i64 (m 4), .int .i64 (m 5), .int .i64 (m 6), .int .i64 (m 7), .int .i64 (m 8)] 29)) 50 #[.int .i64 a0, .int .i64 a1, .int .i64 a2, .int .i64 b0, .int .i64 b1, .int .i64 b2]).alloc (.cells #[.int .i64 0, .int .i64 0, .int .i64 0, .int .i64 0, .int .i64 0, .int .i64 0] 50))
  have P4 := Lib.hid (show HasBlk (((w.alloc (.cells #[.int .i64 (m 0), .int .i64 (m 1), .int .i64 (m 2), .int .i64 (m 3), .int .i64 (m 4), .int .i64 (m 5), .int .i64 (m 6), .int .i64 (m 7), .int .i64 (m 8)] 29)).alloc (.cells #[.int .i64 a0, .int .i64 a1, .int .i64 a2, .int .i64 b0, .int .i64 b1, .int .i64 b2] 50)).alloc (.cells #[.int .i64 0, .int .i64 0, .int .i64 0, .int .i64 0, .int .i64 0, .int .i64 0] 50)) (w.heap.size + 1 + 1) 50 #[.int .i64 0, .int .i64 0, .int .i64 0, .int .i64 0, .int .i64 0, .int .i64 0] by simpa using hasBlk_new ((w.alloc (.cells #[.int .i64 (m 0), .int .i64 (m 1), .int .i64 (m 2), .int .i64 (m 3), .int .i64 (m 4), .int .i64 (m 5), .int .i64 (m 6), .int .i64 (m 7), .int .i64 (m 8)] 29)).alloc (.cells #[.int .i64 a0, .int .i64 a1, .int .i64 a2, .int .i64 b0, .int .i64 b1, .int .i64 b2] 50)) 50 #[.int .i64 0, .int .i64 0, .int .i64 0, .int .i64 0, .int .i64 0, .int .i64 0])
  clear hm hb
  go_enter Tryd.func26, Tryd.ntmps26
  go_upto_region 1 with fail
  generalize (((w.alloc (.cells #[.int .i64 (m 0), .int .i64 (m 1), .int .i64 (m 2), .int .i64 (m 3), .int .i64 (m 4), .int .i64 (m 5), .int .i64 (m 6), .int .i64 (m 7), .int .i64 (m 8)] 29)).alloc (.cells #[.int .i64 a0, .int .i64 a1, .int .i64 a2, .int .i64 b0, .int .i64 b1, .int .i64 b2] 50)).alloc (.cells #[.int .i64 0, .int .i64 0, .int .i64 0, .int .i64 0, .int .i64 0, .int .i64 0] 50)) = v0 at *
  have p2_ := P2.out.c9
  go_wp2
  clear p2_
  go_loopw [22] (fun s22 wr => ∃ i : Nat, i ≤ 3 ∧ s22 = .int .i64 i ∧ Below v0.heap.size v0 wr) (fun s22 wr => 3 - (intOf s22).toNat)
  case atStart => exact ⟨0, Nat.zero_le _, rfl, Below.refl _ _⟩
  case round =>
    obtain ⟨i, hi, rfl, hbel⟩ := hrel
    have BV := Lib.hid hbel
    clear hbel
    obtain rfl | rfl | rfl | rfl : i = 0 ∨ i = 1 ∨ i = 2 ∨ i = 3 := by omega
    · have hx1 := ixm_row0 m
      go_upto_region 4 with fail
      have S7 := Lib.hid (hasBlk_new wr 28 #[.int .i64 (m 0), .int .i64 (m 1), .int .i64 (m 2)])
      have BN := Lib.hid (BV.out.alloc BV.out.size (.cells #[.int .i64 (m 0), .int .i64 (m 1), .int .i64 (m 2)] 28))
      clear BV hx1
      obtain ⟨x7, hx7⟩ : ∃ x7, x7 = wr.heap.size := ⟨_, rfl⟩
      rw [← hx7] at S7 ⊢
      clear hx7
      generalize wr.alloc (.cells #[.int .i64 (m 0), .int .i64 (m 1), .int .i64 (m 2)] 28) = u0 at *
      have s7_ := S7.out.c3
      go_wp2
      clear s7_
      go_loopw [26] (fun s26 wr => ∃ k : Nat, k ≤ 3 ∧ s26 = .int .i64 k ∧ Below v0.heap.size v0 wr) (fun s26 wr => 3 - (intOf s26).toNat)
      case atStart => exact ⟨0, Nat.zero_le _, rfl, BN.out⟩
      case round =>
        clear S7 BN
        obtain ⟨k, hk, rfl, hbel⟩ := hrel
        have BV := Lib.hid hbel
        clear hbel
        obtain rfl | rfl | rfl | rfl : k = 3 ∨ k = 0 ∨ k = 1 ∨ k = 2 := by omega
        · go_wp2
          go_roundw
          case rel => exact ⟨1, by omega, by go_num, BV.out⟩
          case measure => simp [intOf]
        · have hx3 := ix_num0
          have g1 : decide (m 0 < -1024) = false := decide_eq_false (by have := (HM.out 0 (by omega)).1; omega)
          have g2 : decide (1024 < m 0) = false := decide_eq_false (by have := (HM.out 0 (by omega)).2; omega)
          go_wp2
          go_roundw
          case rel => exact ⟨1, by omega, by go_num, BV.out⟩
          case measure => simp [intOf]
        · have hx3 := ix_num1
          have g1 : decide (m 1 < -1024) = false := decide_eq_false (by have := (HM.out 1 (by omega)).1; omega)
          have g2 : decide (1024 < m 1) = false := decide_eq_false (by have := (HM.out 1 (by omega)).2; omega)
          go_wp2
          go_roundw
          case rel => exact ⟨2, by omega, by go_num, BV.out⟩
          case measure => simp [intOf]
        · have hx3 := ix_num2
          have g1 : decide (m 2 < -1024) = false := decide_eq_false (by have := (HM.out 2 (by omega)).1; omega)
          have g2 : decide (1024 < m 2) = false := decide_eq_false (by have := (HM.out 2 (by omega)).2; omega)
          go_wp2
          go_roundw
          case rel => exact ⟨3, by omega, by go_num, BV.out⟩
          case measure => simp [intOf]
    · have hx1 := ixm_row1 m
      go_upto_region 4 with fail
      have S7 := Lib.hid (hasBlk_new wr 28 #[.int .i64 (m 3), .int .i64 (m 4), .int .i64 (m 5)])
      have BN := Lib.hid (BV.out.alloc BV.out.size (.cells #[.int .i64 (m 3), .int .i64 (m 4), .int .i64 (m 5)] 28))
      clear BV hx1
      obtain ⟨x7, hx7⟩ : ∃ x7, x7 = wr.heap.size := ⟨_, rfl⟩
      rw [← hx7] at S7 ⊢
      clear hx7
      generalize wr.alloc (.cells #[.int .i64 (m 3), .int .i64 (m 4), .int .i64 (m 5)] 28) = u0 at *
      have s7_ := S7.out.c3
      go_wp2
      clear s7_
      go_loopw [26] (fun s26 wr => ∃ k : Nat, k ≤ 3 ∧ s26 = .int .i64 k ∧ Below v0.heap.size v0 wr) (fun s26 wr => 3 - (intOf s26).toNat)
      case atStart => exact ⟨0, Nat.zero_le _, rfl, BN.out⟩
      case round =>
        clear S7 BN
        obtain ⟨k, hk, rfl, hbel⟩ := hrel
        have BV := Lib.hid hbel
        clear hbel
        obtain rfl | rfl | rfl | rfl : k = 3 ∨ k = 0 ∨ k = 1 ∨ k = 2 := by omega
        · go_wp2
          go_roundw
          case rel => exact ⟨2, by omega, by go_num, BV.out⟩
          case measure => simp [intOf]
        · have hx3 := ix_num0
          have g1 : decide (m 3 < -1024) = false := decide_eq_false (by have := (HM.out 3 (by omega)).1; omega)
          have g2 : decide (1024 < m 3) = false := decide_eq_false (by have := (HM.out 3 (by omega)).2; omega)
          go_wp2
          go_roundw
          case rel => exact ⟨1, by omega, by go_num, BV.out⟩
          case measure => simp [intOf]
        · have hx3 := ix_num1
          have g1 : decide (m 4 < -1024) = false := decide_eq_false (by have := (HM.out 4 (by omega)).1; omega)
          have g2 : decide (1024 < m 4) = false := decide_eq_false (by have := (HM.out 4 (by omega)).2; omega)
          go_wp2
          go_roundw
          case rel => exact ⟨2, by omega, by go_num, BV.out⟩
          case measure => simp [intOf]
        · have hx3 := ix_num2
          have g1 : decide (m 5 < -1024) = false := decide_eq_false (by have := (HM.out 5 (by omega)).1; omega)
          have g2 : decide (1024 < m 5) = false := decide_eq_false (by have := (HM.out 5 (by omega)).2; omega)
          go_wp2
          go_roundw
          case rel => exact ⟨3, by omega, by go_num, BV.out⟩
          case measure => simp [intOf]
    · have hx1 := ixm_row2 m
      go_upto_region 4 with fail
      have S7 := Lib.hid (hasBlk_new wr 28 #[.int .i64 (m 6), .int .i64 (m 7), .int .i64 (m 8)])
      have BN := Lib.hid (BV.out.alloc BV.out.size (.cells #[.int .i64 (m 6), .int .i64 (m 7), .int .i64 (m 8)] 28))
      clear BV hx1
      obtain ⟨x7, hx7⟩ : ∃ x7, x7 = wr.heap.size := ⟨_, rfl⟩
      rw [← hx7] at S7 ⊢
      clear hx7
      generalize wr.alloc (.cells #[.int .i64 (m 6), .int .i64 (m 7), .int .i64 (m 8)] 28) = u0 at *
      have s7_ := S7.out.c3
      go_wp2
      clear s7_
      go_loopw [26] (fun s26 wr => ∃ k : Nat, k ≤ 3 ∧ s26 = .int .i64 k ∧ Below v0.heap.size v0 wr) (fun s26 wr => 3 - (intOf s26).toNat)
      case atStart => exact ⟨0, Nat.zero_le _, rfl, BN.out⟩
      case round =>
        clear S7 BN
        obtain ⟨k, hk, rfl, hbel⟩ := hrel
        have BV := Lib.hid hbel
        clear hbel
        obtain rfl | rfl | rfl | rfl : k = 3 ∨ k = 0 ∨ k = 1 ∨ k = 2 := by omega
        · go_wp2
          go_roundw
          case rel => exact ⟨3, by omega, by go_num, BV.out⟩
          case measure => simp [intOf]
        · have hx3 := ix_num0
          have g1 : decide (m 6 < -1024) = false := decide_eq_false (by have := (HM.out 6 (by omega)).1; omega)
          have g2 : decide (1024 < m 6) = false := decide_eq_false (by have := (HM.out 6 (by omega)).2; omega)
          go_wp2
          go_roundw
          case rel => exact ⟨1, by omega, by go_num, BV.out⟩
          case measure => simp [intOf]
        · have hx3 := ix_num1
          have g1 : decide (m 7 < -1024) = false := decide_eq_false (by have := (HM.out 7 (by omega)).1; omega)
          have g2 : decide (1024 < m 7) = false := decide_eq_false (by have := (HM.out 7 (by omega)).2; omega)
          go_wp2
          go_roundw
          case rel => exact ⟨2, by omega, by go_num, BV.out⟩
          case measure => simp [intOf]
        · have hx3 := ix_num2
          have g1 : decide (m 8 < -1024) = false := decide_eq_false (by have := (HM.out 8 (by omega)).1; omega)
          have g2 : decide (1024 < m 8) = false := decide_eq_false (by have := (HM.out 8 (by omega)).2; omega)
          go_wp2
          go_roundw
          case rel => exact ⟨3, by omega, by go_num, BV.out⟩
          case measure => simp [intOf]
    · have HC := Lib.hid (HB.out.trans (BV.out.mono HB.out.size))
      have Q2 := Lib.hid (P2.out.below BV.out)
      have Q3 := Lib.hid (P3.out.below BV.out)
      have Q4 := Lib.hid (P4.out.below BV.out)
      clear P2 P3 P4 HB BV
      have HX := HBX.out
      unfold Wi at HX
      have q3_ := Q3.out.c6
      go_wp2_with fail
      refine (bcheck_ok a0 a1 a2 b0 b1 b2 (by unfold B3.Ok B3.mk6 Wi; dsimp only; omega) _).mono ?_
      rintro e v1 ⟨rfl, bel⟩
      clear q3_
      have bmv := bel
      have Q2' := Lib.hid (Q2.out.below bmv)
      have Q3' := Lib.hid (Q3.out.below bmv)
      have Q4' := Lib.hid (Q4.out.below bmv)
      have HC' := Lib.hid (HC.out.trans (bmv.mono HC.out.size))
      clear bmv Q2 Q3 Q4 HC
      have Q2 := Lib.hid Q2'.out
      have Q3 := Lib.hid Q3'.out
      have Q4 := Lib.hid Q4'.out
      have HC := Lib.hid HC'.out
      clear Q2' Q3' Q4' HC'
      clear bel HX
      have q3_ := Q3.out.c6
      go_wp2_with fail
      refine (spans_any a0 a1 a2 b0 b1 b2 _).mono ?_
      rintro e v2 ⟨rfl, bel⟩
      clear q3_
      have bmv := bel
      have Q2' := Lib.hid (Q2.out.below bmv)
      have Q3' := Lib.hid (Q3.out.below bmv)
      have Q4' := Lib.hid (Q4.out.below bmv)
      have HC' := Lib.hid (HC.out.trans (bmv.mono HC.out.size))
      clear bmv Q2 Q3 Q4 HC
      have Q2 := Lib.hid Q2'.out
      have Q3 := Lib.hid Q3'.out
      have Q4 := Lib.hid Q4'.out
      have HC := Lib.hid HC'.out
      clear Q2' Q3' Q4' HC'
      clear bel
      have hz9 := zero_sp3
      go_upto_region 16 with fail
      clear hz9
      have S11 := Lib.hid ((hasBlk_new v2 110 #[.int .i64 a0, .int .i64 b0, .int .i64 a1, .int .i64 b1, .int .i64 a2, .int .i64 b2]).alloc (.cells #[.int .i64 0, .int .i64 0, .int .i64 0, .int .i64 0, .int .i64 0, .int .i64 0] 110))
      have S12 := Lib.hid (show HasBlk ((v2.alloc (.cells #[.int .i64 a0, .int .i64 b0, .int .i64 a1, .int .i64 b1, .int .i64 a2, .int .i64 b2] 110)).alloc (.cells #[.int .i64 0, .int .i64 0, .int .i64 0, .int .i64 0, .int .i64 0, .int .i64 0] 110)) (v2.heap.size + 1) 110 #[.int .i64 0, .int .i64 0, .int .i64 0, .int .i64 0, .int .i64 0, .int .i64 0] by simpa using hasBlk_new (v2.alloc (.cells #[.int .i64 a0, .int .i64 b0, .int .i64 a1, .int .i64 b1, .int .i64 a2, .int .i64 b2] 110)) 110 #[.int .i64 0, .int .i64 0, .int .i64 0, .int .i64 0, .int .i64 0, .int .i64 0])
      have bA := ((Below.refl v2.heap.size v2).alloc (Nat.le_refl _) (.cells #[.int .i64 a0, .int .i64 b0, .int .i64 a1, .int .i64 b1, .int .i64 a2, .int .i64 b2] 110)).alloc (by simp) (.cells #[.int .i64 0, .int .i64 0, .int .i64 0, .int .i64 0, .int .i64 0, .int .i64 0] 110)
      have hlx := Q4.out.lt
      have bmv := bA
      have Q2' := Lib.hid (Q2.out.below bmv)
      have Q4' := Lib.hid (Q4.out.below bmv)
      have HC' := Lib.hid (HC.out.trans (bmv.mono HC.out.size))
      clear bmv Q2 Q4 HC
      have Q2 := Lib.hid Q2'.out
      have Q4 := Lib.hid Q4'.out
      have HC := Lib.hid HC'.out
      clear Q2' Q4' HC'
      clear bA Q3
      obtain ⟨x11, hx11⟩ : ∃ x11, x11 = v2.heap.size := ⟨_, rfl⟩
      rw [← hx11] at S11 S12 hlx ⊢
      have LX := Lib.hid hlx
      clear hx11 hlx
      generalize (v2.alloc (.cells #[.int .i64 a0, .int .i64 b0, .int .i64 a1, .int .i64 b1, .int .i64 a2, .int .i64 b2] 110)).alloc (.cells #[.int .i64 0, .int .i64 0, .int .i64 0, .int .i64 0, .int .i64 0, .int .i64 0] 110) = v3 at *
      have q2_ := Q2.out.c9
      go_wp2
      clear q2_
      clear Q2
      have TB0 := Lib.hid (t_bd (HM.out 0 (by omega)) HBX.out.1.1 HBX.out.1.2.1 HBX.out.1.2.2)
      have KS0 := Lib.hid (fun W => scale_ok a0 b0 (m 0) (by have h := HBX.out.1; unfold Wi at h; unfold SpOk; omega) (by have h := HM.out 0 (by omega); unfold Wi at h; omega) (by have h := TB0.out; unfold SpOk; omega) W)
      have TB1 := Lib.hid (t_bd (HM.out 1 (by omega)) HBX.out.2.1.1 HBX.out.2.1.2.1 HBX.out.2.1.2.2)
      have KS1 := Lib.hid (fun W => scale_ok a1 b1 (m 1) (by have h := HBX.out.2.1; unfold Wi at h; unfold SpOk; omega) (by have h := HM.out 1 (by omega); unfold Wi at h; omega) (by have h := TB1.out; unfold SpOk; omega) W)
      have TB2 := Lib.hid (t_bd (HM.out 2 (by omega)) HBX.out.2.2.1 HBX.out.2.2.2.1 HBX.out.2.2.2.2)
      have KS2 := Lib.hid (fun W => scale_ok a2 b2 (m 2) (by have h := HBX.out.2.2; unfold Wi at h; unfold SpOk; omega) (by have h := HM.out 2 (by omega); unfold Wi at h; omega) (by have h := TB2.out; unfold SpOk; omega) W)
      have TB3 := Lib.hid (t_bd (HM.out 3 (by omega)) HBX.out.1.1 HBX.out.1.2.1 HBX.out.1.2.2)
      have KS3 := Lib.hid (fun W => scale_ok a0 b0 (m 3) (by have h := HBX.out.1; unfold Wi at h; unfold SpOk; omega) (by have h := HM.out 3 (by omega); unfold Wi at h; omega) (by have h := TB3.out; unfold SpOk; omega) W)
      have TB4 := Lib.hid (t_bd (HM.out 4 (by omega)) HBX.out.2.1.1 HBX.out.2.1.2.1 HBX.out.2.1.2.2)
      have KS4 := Lib.hid (fun W => scale_ok a1 b1 (m 4) (by have h := HBX.out.2.1; unfold Wi at h; unfold SpOk; omega) (by have h := HM.out 4 (by omega); unfold Wi at h; omega) (by have h := TB4.out; unfold SpOk; omega) W)
      have TB5 := Lib.hid (t_bd (HM.out 5 (by omega)) HBX.out.2.2.1 HBX.out.2.2.2.1 HBX.out.2.2.2.2)
      have KS5 := Lib.hid (fun W => scale_ok a2 b2 (m 5) (by have h := HBX.out.2.2; unfold Wi at h; unfold SpOk; omega) (by have h := HM.out 5 (by omega); unfold Wi at h; omega) (by have h := TB5.out; unfold SpOk; omega) W)
      have TB6 := Lib.hid (t_bd (HM.out 6 (by omega)) HBX.out.1.1 HBX.out.1.2.1 HBX.out.1.2.2)
      have KS6 := Lib.hid (fun W => scale_ok a0 b0 (m 6) (by have h := HBX.out.1; unfold Wi at h; unfold SpOk; omega) (by have h := HM.out 6 (by omega); unfold Wi at h; omega) (by have h := TB6.out; unfold SpOk; omega) W)
      have TB7 := Lib.hid (t_bd (HM.out 7 (by omega)) HBX.out.2.1.1 HBX.out.2.1.2.1 HBX.out.2.1.2.2)
      have KS7 := Lib.hid (fun W => scale_ok a1 b1 (m 7) (by have h := HBX.out.2.1; unfold Wi at h; unfold SpOk; omega) (by have h := HM.out 7 (by omega); unfold Wi at h; omega) (by have h := TB7.out; unfold SpOk; omega) W)
      have TB8 := Lib.hid (t_bd (HM.out 8 (by omega)) HBX.out.2.2.1 HBX.out.2.2.2.1 HBX.out.2.2.2.2)
      have KS8 := Lib.hid (fun W => scale_ok a2 b2 (m 8) (by have h := HBX.out.2.2; unfold Wi at h; unfold SpOk; omega) (by have h := HM.out 8 (by omega); unfold Wi at h; omega) (by have h := TB8.out; unfold SpOk; omega) W)
      have KA0 := Lib.hid (fun W => add0_ok (tlo (m 0) a0 b0) (thi (m 0) a0 b0) (by have t0 := TB0.out; unfold SpOk; omega) W)
      have KA1 := Lib.hid (fun W => add_ok (tlo (m 0) a0 b0) (thi (m 0) a0 b0) (tlo (m 1) a1 b1) (thi (m 1) a1 b1) (by have t0 := TB0.out; have t1 := TB1.out; unfold SpOk; omega) (by have t0 := TB0.out; have t1 := TB1.out; unfold SpOk; omega) (by have t0 := TB0.out; have t1 := TB1.out; unfold SpOk; omega) W)
      have KA2 := Lib.hid (fun W => add_ok (tlo (m 0) a0 b0 + tlo (m 1) a1 b1) (thi (m 0) a0 b0 + thi (m 1) a1 b1) (tlo (m 2) a2 b2) (thi (m 2) a2 b2) (by have t0 := TB0.out; have t1 := TB1.out; have t2 := TB2.out; unfold SpOk; omega) (by have t0 := TB0.out; have t1 := TB1.out; have t2 := TB2.out; unfold SpOk; omega) (by have t0 := TB0.out; have t1 := TB1.out; have t2 := TB2.out; unfold SpOk; omega) W)
      have KA3 := Lib.hid (fun W => add0_ok (tlo (m 3) a0 b0) (thi (m 3) a0 b0) (by have t0 := TB3.out; unfold SpOk; omega) W)
      have KA4 := Lib.hid (fun W => add_ok (tlo (m 3) a0 b0) (thi (m 3) a0 b0) (tlo (m 4) a1 b1) (thi (m 4) a1 b1) (by have t0 := TB3.out; have t1 := TB4.out; unfold SpOk; omega) (by have t0 := TB3.out; have t1 := TB4.out; unfold SpOk; omega) (by have t0 := TB3.out; have t1 := TB4.out; unfold SpOk; omega) W)
      have KA5 := Lib.hid (fun W => add_ok (tlo (m 3) a0 b0 + tlo (m 4) a1 b1) (thi (m 3) a0 b0 + thi (m 4) a1 b1) (tlo (m 5) a2 b2) (thi (m 5) a2 b2) (by have t0 := TB3.out; have t1 := TB4.out; have t2 := TB5.out; unfold SpOk; omega) (by have t0 := TB3.out; have t1 := TB4.out; have t2 := TB5.out; unfold SpOk; omega) (by have t0 := TB3.out; have t1 := TB4.out; have t2 := TB5.out; unfold SpOk; omega) W)
      have KA6 := Lib.hid (fun W => add0_ok (tlo (m 6) a0 b0) (thi (m 6) a0 b0) (by have t0 := TB6.out; unfold SpOk; omega) W)
      have KA7 := Lib.hid (fun W => add_ok (tlo (m 6) a0 b0) (thi (m 6) a0 b0) (tlo (m 7) a1 b1) (thi (m 7) a1 b1) (by have t0 := TB6.out; have t1 := TB7.out; unfold SpOk; omega) (by have t0 := TB6.out; have t1 := TB7.out; unfold SpOk; omega) (by have t0 := TB6.out; have t1 := TB7.out; unfold SpOk; omega) W)
      have KA8 := Lib.hid (fun W => add_ok (tlo (m 6) a0 b0 + tlo (m 7) a1 b1) (thi (m 6) a0 b0 + thi (m 7) a1 b1) (tlo (m 8) a2 b2) (thi (m 8) a2 b2) (by have t0 := TB6.out; have t1 := TB7.out; have t2 := TB8.out; unfold SpOk; omega) (by have t0 := TB6.out; have t1 := TB7.out; have t2 := TB8.out; unfold SpOk; omega) (by have t0 := TB6.out; have t1 := TB7.out; have t2 := TB8.out; unfold SpOk; omega) W)
      have KD0 := Lib.hid (fun W => div_ok (tlo (m 0) a0 b0 + tlo (m 1) a1 b1 + tlo (m 2) a2 b2) (thi (m 0) a0 b0 + thi (m 1) a1 b1 + thi (m 2) a2 b2) 256 (by have t0 := TB0.out; have t1 := TB1.out; have t2 := TB2.out; unfold SpOk; omega) (by omega) W)
      have KD1 := Lib.hid (fun W => div_ok (tlo (m 3) a0 b0 + tlo (m 4) a1 b1 + tlo (m 5) a2 b2) (thi (m 3) a0 b0 + thi (m 4) a1 b1 + thi (m 5) a2 b2) 256 (by have t0 := TB3.out; have t1 := TB4.out; have t2 := TB5.out; unfold SpOk; omega) (by omega) W)
      have KD2 := Lib.hid (fun W => div_ok (tlo (m 6) a0 b0 + tlo (m 7) a1 b1 + tlo (m 8) a2 b2) (thi (m 6) a0 b0 + thi (m 7) a1 b1 + thi (m 8) a2 b2) 256 (by have t0 := TB6.out; have t1 := TB7.out; have t2 := TB8.out; unfold SpOk; omega) (by omega) W)
      have KB := Lib.hid (fun W => bcheck_ok ((tlo (m 0) a0 b0 + tlo (m 1) a1 b1 + tlo (m 2) a2 b2) / 256) ((tlo (m 3) a0 b0 + tlo (m 4) a1 b1 + tlo (m 5) a2 b2) / 256) ((tlo (m 6) a0 b0 + tlo (m 7) a1 b1 + tlo (m 8) a2 b2) / 256) ((thi (m 0) a0 b0 + thi (m 1) a1 b1 + thi (m 2) a2 b2) / 256) ((thi (m 3) a0 b0 + thi (m 4) a1 b1 + thi (m 5) a2 b2) / 256) ((thi (m 6) a0 b0 + thi (m 7) a1 b1 + thi (m 8) a2 b2) / 256) (by have t0 := TB0.out; have t1 := TB1.out; have t2 := TB2.out; have t3 := TB3.out; have t4 := TB4.out; have t5 := TB5.out; have t6 := TB6.out; have t7 := TB7.out; have t8 := TB8.out; unfold B3.Ok B3.mk6 Wi; dsimp only; omega) W)
      have KBX := Lib.hid (fun W => boxed_any ((tlo (m 0) a0 b0 + tlo (m 1) a1 b1 + tlo (m 2) a2 b2) / 256) ((thi (m 0) a0 b0 + thi (m 1) a1 b1 + thi (m 2) a2 b2) / 256) ((tlo (m 3) a0 b0 + tlo (m 4) a1 b1 + tlo (m 5) a2 b2) / 256) ((thi (m 3) a0 b0 + thi (m 4) a1 b1 + thi (m 5) a2 b2) / 256) ((tlo (m 6) a0 b0 + tlo (m 7) a1 b1 + tlo (m 8) a2 b2) / 256) ((thi (m 6) a0 b0 + thi (m 7) a1 b1 + thi (m 8) a2 b2) / 256) W)
      clear TB0 TB1 TB2 TB3 TB4 TB5 TB6 TB7 TB8 HM HBX
      go_loopw [47] (fun s47 wr => RowKit.Hid ((s47 = .int .i64 (0 : Nat) ∧ HasBlk wr (x11 + 1) 110 #[.int .i64 (0), .int .i64 (0), .int .i64 0, .int .i64 0, .int .i64 0, .int .i64 0] ∧ HasBlk wr x11 110 #[.int .i64 a0, .int .i64 b0, .int .i64 a1, .int .i64 b1, .int .i64 a2, .int .i64 b2] ∧ HasBlk wr (w.heap.size + 1 + 1) 50 #[.int .i64 0, .int .i64 0, .int .i64 0, .int .i64 0, .int .i64 0, .int .i64 0] ∧ Below w.heap.size w wr) ∨ ((s47 = .int .i64 (1 : Nat) ∧ HasBlk wr (x11 + 1) 110 #[.int .i64 ((tlo (m 0) a0 b0 + tlo (m 1) a1 b1 + tlo (m 2) a2 b2) / 256), .int .i64 ((thi (m 0) a0 b0 + thi (m 1) a1 b1 + thi (m 2) a2 b2) / 256), .int .i64 (0), .int .i64 (0), .int .i64 0, .int .i64 0] ∧ HasBlk wr x11 110 #[.int .i64 a0, .int .i64 b0, .int .i64 a1, .int .i64 b1, .int .i64 a2, .int .i64 b2] ∧ HasBlk wr (w.heap.size + 1 + 1) 50 #[.int .i64 0, .int .i64 0, .int .i64 0, .int .i64 0, .int .i64 0, .int .i64 0] ∧ Below w.heap.size w wr) ∨ ((s47 = .int .i64 (2 : Nat) ∧ HasBlk wr (x11 + 1) 110 #[.int .i64 ((tlo (m 0) a0 b0 + tlo (m 1) a1 b1 + tlo (m 2) a2 b2) / 256), .int .i64 ((thi (m 0) a0 b0 + thi (m 1) a1 b1 + thi (m 2) a2 b2) / 256), .int .i64 ((tlo (m 3) a0 b0 + tlo (m 4) a1 b1 + tlo (m 5) a2 b2) / 256), .int .i64 ((thi (m 3) a0 b0 + thi (m 4) a1 b1 + thi (m 5) a2 b2) / 256), .int .i64 (0), .int .i64 (0)] ∧ HasBlk wr x11 110 #[.int .i64 a0, .int .i64 b0, .int .i64 a1, .int .i64 b1, .int .i64 a2, .int .i64 b2] ∧ HasBlk wr (w.heap.size + 1 + 1) 50 #[.int .i64 0, .int .i64 0, .int .i64 0, .int .i64 0, .int .i64 0, .int .i64 0] ∧ Below w.heap.size w wr) ∨ ((s47 = .int .i64 (3 : Nat) ∧ HasBlk wr (x11 + 1) 110 #[.int .i64 ((tlo (m 0) a0 b0 + tlo (m 1) a1 b1 + tlo (m 2) a2 b2) / 256), .int .i64 ((thi (m 0) a0 b0 + thi (m 1) a1 b1 + thi (m 2) a2 b2) / 256), .int .i64 ((tlo (m 3) a0 b0 + tlo (m 4) a1 b1 + tlo (m 5) a2 b2) / 256), .int .i64 ((thi (m 3) a0 b0 + thi (m 4) a1 b1 + thi (m 5) a2 b2) / 256), .int .i64 ((tlo (m 6) a0 b0 + tlo (m 7) a1 b1 + tlo (m 8) a2 b2) / 256), .int .i64 ((thi (m 6) a0 b0 + thi (m 7) a1 b1 + thi (m 8) a2 b2) / 256)] ∧ HasBlk wr x11 110 #[.int .i64 a0, .int .i64 b0, .int .i64 a1, .int .i64 b1, .int .i64 a2, .int .i64 b2] ∧ HasBlk wr (w.heap.size + 1 + 1) 50 #[.int .i64 0, .int .i64 0, .int .i64 0, .int .i64 0, .int .i64 0, .int .i64 0] ∧ Below w.heap.size w wr)))))) (fun s47 wr => 3 - (intOf s47).toNat)
      case atStart => exact Lib.hid (.inl ⟨rfl, S12.out, S11.out, Q4.out, HC.out⟩)
      case round =>
        clear S12 S11 Q4 HC
        rcases hrel.out with ⟨rfl, h1, h2, h3, h4⟩ | ⟨rfl, h1, h2, h3, h4⟩ | ⟨rfl, h1, h2, h3, h4⟩ | ⟨rfl, h1, h2, h3, h4⟩
        · have hx1 := ixm_row0 m
          have S12 := Lib.hid h1
          have S11 := Lib.hid h2
          have Q4 := Lib.hid h3
          have HC := Lib.hid h4
          clear h1 h2 h3 h4
          go_upto_region 19 with fail
          have S14 := Lib.hid (hasBlk_new wr 28 #[.int .i64 (m 0), .int .i64 (m 1), .int .i64 (m 2)])
          have bA := (Below.refl wr.heap.size wr).alloc (Nat.le_refl _) (.cells #[.int .i64 (m 0), .int .i64 (m 1), .int .i64 (m 2)] 28)
          have bmv := bA
          have S11' := Lib.hid (S11.out.below bmv)
          have S12' := Lib.hid (S12.out.below bmv)
          have Q4' := Lib.hid (Q4.out.below bmv)
          have HC' := Lib.hid (HC.out.trans (bmv.mono HC.out.size))
          clear bmv S11 S12 Q4 HC
          have S11 := Lib.hid S11'.out
          have S12 := Lib.hid S12'.out
          have Q4 := Lib.hid Q4'.out
          have HC := Lib.hid HC'.out
          clear S11' S12' Q4' HC'
          clear bA hx1
          obtain ⟨x14, hx14⟩ : ∃ x14, x14 = wr.heap.size := ⟨_, rfl⟩
          rw [← hx14] at S14 ⊢
          clear hx14
          generalize wr.alloc (.cells #[.int .i64 (m 0), .int .i64 (m 1), .int .i64 (m 2)] 28) = u0 at *
          have s14_ := S14.out.c3
          go_wp2
          clear s14_
          clear S14
          go_loopw [52] (fun s52 wr => RowKit.Hid ((s52 = .int .i64 (0 : Nat) ∧ HasBlk wr (x11 + 1) 110 #[.int .i64 (0), .int .i64 (0), .int .i64 0, .int .i64 0, .int .i64 0, .int .i64 0] ∧ HasBlk wr x11 110 #[.int .i64 a0, .int .i64 b0, .int .i64 a1, .int .i64 b1, .int .i64 a2, .int .i64 b2] ∧ HasBlk wr (w.heap.size + 1 + 1) 50 #[.int .i64 0, .int .i64 0, .int .i64 0, .int .i64 0, .int .i64 0, .int .i64 0] ∧ Below w.heap.size w wr) ∨ ((s52 = .int .i64 (1 : Nat) ∧ HasBlk wr (x11 + 1) 110 #[.int .i64 (tlo (m 0) a0 b0), .int .i64 (thi (m 0) a0 b0), .int .i64 0, .int .i64 0, .int .i64 0, .int .i64 0] ∧ HasBlk wr x11 110 #[.int .i64 a0, .int .i64 b0, .int .i64 a1, .int .i64 b1, .int .i64 a2, .int .i64 b2] ∧ HasBlk wr (w.heap.size + 1 + 1) 50 #[.int .i64 0, .int .i64 0, .int .i64 0, .int .i64 0, .int .i64 0, .int .i64 0] ∧ Below w.heap.size w wr) ∨ ((s52 = .int .i64 (2 : Nat) ∧ HasBlk wr (x11 + 1) 110 #[.int .i64 (tlo (m 0) a0 b0 + tlo (m 1) a1 b1), .int .i64 (thi (m 0) a0 b0 + thi (m 1) a1 b1), .int .i64 0, .int .i64 0, .int .i64 0, .int .i64 0] ∧ HasBlk wr x11 110 #[.int .i64 a0, .int .i64 b0, .int .i64 a1, .int .i64 b1, .int .i64 a2, .int .i64 b2] ∧ HasBlk wr (w.heap.size + 1 + 1) 50 #[.int .i64 0, .int .i64 0, .int .i64 0, .int .i64 0, .int .i64 0, .int .i64 0] ∧ Below w.heap.size w wr) ∨ ((s52 = .int .i64 (3 : Nat) ∧ HasBlk wr (x11 + 1) 110 #[.int .i64 (tlo (m 0) a0 b0 + tlo (m 1) a1 b1 + tlo (m 2) a2 b2), .int .i64 (thi (m 0) a0 b0 + thi (m 1) a1 b1 + thi (m 2) a2 b2), .int .i64 0, .int .i64 0, .int .i64 0, .int .i64 0] ∧ HasBlk wr x11 110 #[.int .i64 a0, .int .i64 b0, .int .i64 a1, .int .i64 b1, .int .i64 a2, .int .i64 b2] ∧ HasBlk wr (w.heap.size + 1 + 1) 50 #[.int .i64 0, .int .i64 0, .int .i64 0, .int .i64 0, .int .i64 0, .int .i64 0] ∧ Below w.heap.size w wr)))))) (fun s52 wr => 3 - (intOf s52).toNat)
          case atStart => exact Lib.hid (.inl ⟨rfl, S12.out, S11.out, Q4.out, HC.out⟩)
          case round =>
            clear S12 S11 Q4 HC
            rcases hrel.out with ⟨rfl, h1, h2, h3, h4⟩ | ⟨rfl, h1, h2, h3, h4⟩ | ⟨rfl, h1, h2, h3, h4⟩ | ⟨rfl, h1, h2, h3, h4⟩
            · have hx3 := ix_num0
              have S12 := Lib.hid h1
              have S11 := Lib.hid h2
              have Q4 := Lib.hid h3
              have HC := Lib.hid h4
              clear h1 h2 h3 h4
              have s11_ := S11.out.c6
              go_wp2_with fail
              refine (KS0.out _).mono ?_
              rintro e u1 ⟨rfl, bel⟩
              clear s11_
              have bmv := bel
              have S11' := Lib.hid (S11.out.below bmv)
              have S12' := Lib.hid (S12.out.below bmv)
              have Q4' := Lib.hid (Q4.out.below bmv)
              have HC' := Lib.hid (HC.out.trans (bmv.mono HC.out.size))
              clear bmv S11 S12 Q4 HC
              have S11 := Lib.hid S11'.out
              have S12 := Lib.hid S12'.out
              have Q4 := Lib.hid Q4'.out
              have HC := Lib.hid HC'.out
              clear S11' S12' Q4' HC'
              clear bel hx3
              go_upto_region 25 with fail
              have S17 := Lib.hid (hasBlk_new u1 109 #[.int .i64 (tlo (m 0) a0 b0), .int .i64 (thi (m 0) a0 b0)])
              have hl17 := S12.out.lt
              have bA := (Below.refl u1.heap.size u1).alloc (Nat.le_refl _) (.cells #[.int .i64 (tlo (m 0) a0 b0), .int .i64 (thi (m 0) a0 b0)] 109)
              have bmv := bA
              have S11' := Lib.hid (S11.out.below bmv)
              have S12' := Lib.hid (S12.out.below bmv)
              have Q4' := Lib.hid (Q4.out.below bmv)
              have HC' := Lib.hid (HC.out.trans (bmv.mono HC.out.size))
              clear bmv S11 S12 Q4 HC
              have S11 := Lib.hid S11'.out
              have S12 := Lib.hid S12'.out
              have Q4 := Lib.hid Q4'.out
              have HC := Lib.hid HC'.out
              clear S11' S12' Q4' HC'
              clear bA
              obtain ⟨x17, hx17⟩ : ∃ x17, x17 = u1.heap.size := ⟨_, rfl⟩
              rw [← hx17] at S17 hl17 ⊢
              have L17 := Lib.hid hl17
              clear hx17 hl17
              generalize u1.alloc (.cells #[.int .i64 (tlo (m 0) a0 b0), .int .i64 (thi (m 0) a0 b0)] 109) = u2 at *
              have bd := (Below.refl u2.heap.size u2).drew
              have bmv := bd
              have S11' := Lib.hid (S11.out.below bmv)
              have S12' := Lib.hid (S12.out.below bmv)
              have Q4' := Lib.hid (Q4.out.below bmv)
              have S17' := Lib.hid (S17.out.below bmv)
              have HC' := Lib.hid (HC.out.trans (bmv.mono HC.out.size))
              clear bmv S11 S12 Q4 S17 HC
              have S11 := Lib.hid S11'.out
              have S12 := Lib.hid S12'.out
              have Q4 := Lib.hid Q4'.out
              have S17 := Lib.hid S17'.out
              have HC := Lib.hid HC'.out
              clear S11' S12' Q4' S17' HC'
              clear bd
              have HS := Lib.hid (show (fun Wo => HasBlk Wo x17 109 #[.int .i64 (tlo (m 0) a0 b0), .int .i64 (thi (m 0) a0 b0)] ∧ HasBlk Wo x17 109 #[.int .i64 (tlo (m 0) a0 b0), .int .i64 (thi (m 0) a0 b0)]) u2.drew from ⟨S17.out, S17.out⟩)
              refine wp_region_E (fun Wo => HasBlk Wo x17 109 #[.int .i64 (tlo (m 0) a0 b0), .int .i64 (thi (m 0) a0 b0)] ∧ HasBlk Wo x17 109 #[.int .i64 (tlo (m 0) a0 b0), .int .i64 (thi (m 0) a0 b0)]) 99 (by kernel_rfl) ?_
              generalize u2.drew = u3 at *
              refine wpAnyE_takeA (i := 0) (v := .int .i64 0) rfl (by kernel_rfl) (fun _ _ _ h => h) (.inl ⟨by first | kernel_rfl | rfl, fun W hW => by go_simp⟩) HS.out ?_
              simp only [Act.put, List.setIfInBounds_toArray]
              refine wpAnyE_takeA (i := 1) (v := .int .i64 0) rfl (by kernel_rfl) (fun _ _ _ h => h) (.inl ⟨by first | kernel_rfl | rfl, fun W hW => by go_simp⟩) HS.out ?_
              simp only [Act.put]
              refine wpAnyE_takeA (i := 2) (v := .pointer (some ⟨(x11 + 1), 0, none⟩)) rfl (by kernel_rfl) (fun _ _ _ h => h) (.inl ⟨by first | kernel_rfl | rfl, fun W hW => by go_simp⟩) HS.out ?_
              simp only [Act.put]
              refine wpAnyE_takeA (i := 4) (v := .agg #[.int .i64 (tlo (m 0) a0 b0), .int .i64 (thi (m 0) a0 b0)]) rfl (by kernel_rfl) (fun _ _ _ h => h) (.inl ⟨by first | kernel_rfl | rfl, fun W hW => ?_⟩) HS.out ?_
              · have q0 := hW.1.cell 0
                have q1 := hW.1.cell 1
                have qz := hW.1.lt
                simp at q0 q1
                go_simp
              simp only [Act.put]
              have s12_ := S12.out.c6
              refine wpAnyE_step (i := 3) rfl (by kernel_rfl) (fun KQ HK => ?_)
              go_wp2
              refine HK _ _ (fun _ => HS.out) ?_
              clear HK
              clear s12_
              refine wpAnyE_step (i := 5) rfl (by kernel_rfl) (fun KQ HK => ?_)
              have KX := Lib.hid (KA0.out u3)
              go_wp2_with fail
              refine KX.out.mono ?_
              rintro e u4 ⟨rfl, bel⟩
              clear KX HS
              have bmv := bel
              have S11' := Lib.hid (S11.out.below bmv)
              have S12' := Lib.hid (S12.out.below bmv)
              have Q4' := Lib.hid (Q4.out.below bmv)
              have S17' := Lib.hid (S17.out.below bmv)
              have HC' := Lib.hid (HC.out.trans (bmv.mono HC.out.size))
              clear bmv S11 S12 Q4 S17 HC
              have S11 := Lib.hid S11'.out
              have S12 := Lib.hid S12'.out
              have Q4 := Lib.hid Q4'.out
              have S17 := Lib.hid S17'.out
              have HC := Lib.hid HC'.out
              clear S11' S12' Q4' S17' HC'
              clear bel
              have HS := Lib.hid (show (fun Wo => HasBlk Wo x17 109 #[.int .i64 (tlo (m 0) a0 b0), .int .i64 (thi (m 0) a0 b0)] ∧ HasBlk Wo x17 109 #[.int .i64 (tlo (m 0) a0 b0), .int .i64 (thi (m 0) a0 b0)]) u4 from ⟨S17.out, S17.out⟩)
              go_wp2
              refine HK _ _ (fun _ => HS.out) ?_
              clear HK
              refine wpAnyE_takeA (i := 6) (v := .tuple #[.agg #[.int .i64 (tlo (m 0) a0 b0), .int .i64 (thi (m 0) a0 b0)], .int .i64 0]) rfl (by kernel_rfl) (fun _ _ _ h => h) (.inl ⟨by first | kernel_rfl | rfl, fun W hW => by go_simp⟩) HS.out ?_
              simp only [Act.put, List.setIfInBounds_toArray]
              refine wpAnyE_takeA (i := 7) (v := .agg #[.int .i64 (tlo (m 0) a0 b0), .int .i64 (thi (m 0) a0 b0)]) rfl (by kernel_rfl) (fun _ _ _ h => h) (.inl ⟨by first | kernel_rfl | rfl, fun W hW => by go_simp⟩) HS.out ?_
              simp only [Act.put]
              refine wpAnyE_takeA (i := 8) (v := .int .i64 0) rfl (by kernel_rfl) (fun _ _ _ h => h) (.inl ⟨by first | kernel_rfl | rfl, fun W hW => by go_simp⟩) HS.out ?_
              simp only [Act.put]
              refine wpAnyE_takeA (i := 9) (v := .pointer (some ⟨(x11 + 1), 0, none⟩)) rfl (by kernel_rfl) (fun _ _ _ h => h) (.inl ⟨by first | kernel_rfl | rfl, fun W hW => by go_simp⟩) HS.out ?_
              simp only [Act.put]
              have s12_ := S12.out.f6
              have hs17 : (x11 + 1) < x17 := L17.out
              have hq4 : (w.heap.size + 1 + 1) < x11 := LX.out
              refine wpAnyE_step (i := 10) rfl (by kernel_rfl) (fun KQ HK => ?_)
              go_wp2
              have R12 := Lib.hid (show HasBlk ((u4.setCell ⟨(x11 + 1), 0, none⟩ (.int .i64 (tlo (m 0) a0 b0))).setCell ⟨(x11 + 1), 1, none⟩ (.int .i64 (thi (m 0) a0 b0))) (x11 + 1) 110 #[.int .i64 (tlo (m 0) a0 b0), .int .i64 (thi (m 0) a0 b0), .int .i64 0, .int .i64 0, .int .i64 0, .int .i64 0] by simpa using (S12.out.set 0 (.int .i64 (tlo (m 0) a0 b0))).set 1 (.int .i64 (thi (m 0) a0 b0)))
              have R11 := Lib.hid (show HasBlk ((u4.setCell ⟨(x11 + 1), 0, none⟩ (.int .i64 (tlo (m 0) a0 b0))).setCell ⟨(x11 + 1), 1, none⟩ (.int .i64 (thi (m 0) a0 b0))) x11 110 #[.int .i64 a0, .int .i64 b0, .int .i64 a1, .int .i64 b1, .int .i64 a2, .int .i64 b2] from ((S11.out.far (p := ⟨(x11 + 1), 0, none⟩) (by first | omega | (simp; done) | (simp; omega)) (.int .i64 (tlo (m 0) a0 b0))).far (p := ⟨(x11 + 1), 1, none⟩) (by first | omega | (simp; done) | (simp; omega)) (.int .i64 (thi (m 0) a0 b0))))
              have R4 := Lib.hid (show HasBlk ((u4.setCell ⟨(x11 + 1), 0, none⟩ (.int .i64 (tlo (m 0) a0 b0))).setCell ⟨(x11 + 1), 1, none⟩ (.int .i64 (thi (m 0) a0 b0))) (w.heap.size + 1 + 1) 50 #[.int .i64 0, .int .i64 0, .int .i64 0, .int .i64 0, .int .i64 0, .int .i64 0] from ((Q4.out.far (p := ⟨(x11 + 1), 0, none⟩) (by first | omega | (simp; done) | (simp; omega)) (.int .i64 (tlo (m 0) a0 b0))).far (p := ⟨(x11 + 1), 1, none⟩) (by first | omega | (simp; done) | (simp; omega)) (.int .i64 (thi (m 0) a0 b0))))
              have R17 := Lib.hid (show HasBlk ((u4.setCell ⟨(x11 + 1), 0, none⟩ (.int .i64 (tlo (m 0) a0 b0))).setCell ⟨(x11 + 1), 1, none⟩ (.int .i64 (thi (m 0) a0 b0))) x17 109 #[.int .i64 (tlo (m 0) a0 b0), .int .i64 (thi (m 0) a0 b0)] from ((S17.out.far (p := ⟨(x11 + 1), 0, none⟩) (by first | omega | (simp; done) | (simp; omega)) (.int .i64 (tlo (m 0) a0 b0))).far (p := ⟨(x11 + 1), 1, none⟩) (by first | omega | (simp; done) | (simp; omega)) (.int .i64 (thi (m 0) a0 b0))))
              have HD := Lib.hid (show Below w.heap.size w ((u4.setCell ⟨(x11 + 1), 0, none⟩ (.int .i64 (tlo (m 0) a0 b0))).setCell ⟨(x11 + 1), 1, none⟩ (.int .i64 (thi (m 0) a0 b0))) from Below.setCell (Below.setCell HC.out (by first | omega | (simp; done) | (simp; omega)) _) (by first | omega | (simp; done) | (simp; omega)) _)
              have HS2 := Lib.hid (show (fun Wo => HasBlk Wo x17 109 #[.int .i64 (tlo (m 0) a0 b0), .int .i64 (thi (m 0) a0 b0)] ∧ HasBlk Wo x17 109 #[.int .i64 (tlo (m 0) a0 b0), .int .i64 (thi (m 0) a0 b0)]) ((u4.setCell ⟨(x11 + 1), 0, none⟩ (.int .i64 (tlo (m 0) a0 b0))).setCell ⟨(x11 + 1), 1, none⟩ (.int .i64 (thi (m 0) a0 b0))) from ⟨R17.out, R17.out⟩)
              clear s12_
              clear S12 S11 Q4 S17 HC HS hs17
              refine HK _ _ (fun _ => HS2.out) ?_
              clear HK
              generalize ((u4.setCell ⟨(x11 + 1), 0, none⟩ (.int .i64 (tlo (m 0) a0 b0))).setCell ⟨(x11 + 1), 1, none⟩ (.int .i64 (thi (m 0) a0 b0))) = u5 at *
              refine wpAnyE_takeA (i := 11) (v := .int .i64 0) rfl (by kernel_rfl) (fun _ _ _ h => h) (.inl ⟨by first | kernel_rfl | rfl, fun W hW => by go_simp⟩) HS2.out ?_
              simp only [Act.put, List.setIfInBounds_toArray]
              refine wpAnyE_done (by kernel_rfl) ?_
              go_wp2
              go_roundw
              case rel => exact Lib.hid (.inr ((.inl ⟨by go_num, R12.out, R11.out, R4.out, HD.out⟩)))
              case measure => simp [intOf]
            · have hx3 := ix_num1
              have S12 := Lib.hid h1
              have S11 := Lib.hid h2
              have Q4 := Lib.hid h3
              have HC := Lib.hid h4
              clear h1 h2 h3 h4
              have s11_ := S11.out.c6
              go_wp2_with fail
              refine (KS1.out _).mono ?_
              rintro e u1 ⟨rfl, bel⟩
              clear s11_
              have bmv := bel
              have S11' := Lib.hid (S11.out.below bmv)
              have S12' := Lib.hid (S12.out.below bmv)
              have Q4' := Lib.hid (Q4.out.below bmv)
              have HC' := Lib.hid (HC.out.trans (bmv.mono HC.out.size))
              clear bmv S11 S12 Q4 HC
              have S11 := Lib.hid S11'.out
              have S12 := Lib.hid S12'.out
              have Q4 := Lib.hid Q4'.out
              have HC := Lib.hid HC'.out
              clear S11' S12' Q4' HC'
              clear bel hx3
              go_upto_region 25 with fail
              have S17 := Lib.hid (hasBlk_new u1 109 #[.int .i64 (tlo (m 1) a1 b1), .int .i64 (thi (m 1) a1 b1)])
              have hl17 := S12.out.lt
              have bA := (Below.refl u1.heap.size u1).alloc (Nat.le_refl _) (.cells #[.int .i64 (tlo (m 1) a1 b1), .int .i64 (thi (m 1) a1 b1)] 109)
              have bmv := bA
              have S11' := Lib.hid (S11.out.below bmv)
              have S12' := Lib.hid (S12.out.below bmv)
              have Q4' := Lib.hid (Q4.out.below bmv)
              have HC' := Lib.hid (HC.out.trans (bmv.mono HC.out.size))
              clear bmv S11 S12 Q4 HC
              have S11 := Lib.hid S11'.out
              have S12 := Lib.hid S12'.out
              have Q4 := Lib.hid Q4'.out
              have HC := Lib.hid HC'.out
              clear S11' S12' Q4' HC'
              clear bA
              obtain ⟨x17, hx17⟩ : ∃ x17, x17 = u1.heap.size := ⟨_, rfl⟩
              rw [← hx17] at S17 hl17 ⊢
              have L17 := Lib.hid hl17
              clear hx17 hl17
              generalize u1.alloc (.cells #[.int .i64 (tlo (m 1) a1 b1), .int .i64 (thi (m 1) a1 b1)] 109) = u2 at *
              have bd := (Below.refl u2.heap.size u2).drew
              have bmv := bd
              have S11' := Lib.hid (S11.out.below bmv)
              have S12' := Lib.hid (S12.out.below bmv)
              have Q4' := Lib.hid (Q4.out.below bmv)
              have S17' := Lib.hid (S17.out.below bmv)
              have HC' := Lib.hid (HC.out.trans (bmv.mono HC.out.size))
              clear bmv S11 S12 Q4 S17 HC
              have S11 := Lib.hid S11'.out
              have S12 := Lib.hid S12'.out
              have Q4 := Lib.hid Q4'.out
              have S17 := Lib.hid S17'.out
              have HC := Lib.hid HC'.out
              clear S11' S12' Q4' S17' HC'
              clear bd
              have HS := Lib.hid (show (fun Wo => HasBlk Wo x17 109 #[.int .i64 (tlo (m 1) a1 b1), .int .i64 (thi (m 1) a1 b1)] ∧ HasBlk Wo x17 109 #[.int .i64 (tlo (m 1) a1 b1), .int .i64 (thi (m 1) a1 b1)]) u2.drew from ⟨S17.out, S17.out⟩)
              refine wp_region_E (fun Wo => HasBlk Wo x17 109 #[.int .i64 (tlo (m 1) a1 b1), .int .i64 (thi (m 1) a1 b1)] ∧ HasBlk Wo x17 109 #[.int .i64 (tlo (m 1) a1 b1), .int .i64 (thi (m 1) a1 b1)]) 99 (by kernel_rfl) ?_
              generalize u2.drew = u3 at *
              refine wpAnyE_takeA (i := 0) (v := .int .i64 0) rfl (by kernel_rfl) (fun _ _ _ h => h) (.inl ⟨by first | kernel_rfl | rfl, fun W hW => by go_simp⟩) HS.out ?_
              simp only [Act.put, List.setIfInBounds_toArray]
              refine wpAnyE_takeA (i := 1) (v := .int .i64 0) rfl (by kernel_rfl) (fun _ _ _ h => h) (.inl ⟨by first | kernel_rfl | rfl, fun W hW => by go_simp⟩) HS.out ?_
              simp only [Act.put]
              refine wpAnyE_takeA (i := 2) (v := .pointer (some ⟨(x11 + 1), 0, none⟩)) rfl (by kernel_rfl) (fun _ _ _ h => h) (.inl ⟨by first | kernel_rfl | rfl, fun W hW => by go_simp⟩) HS.out ?_
              simp only [Act.put]
              refine wpAnyE_takeA (i := 4) (v := .agg #[.int .i64 (tlo (m 1) a1 b1), .int .i64 (thi (m 1) a1 b1)]) rfl (by kernel_rfl) (fun _ _ _ h => h) (.inl ⟨by first | kernel_rfl | rfl, fun W hW => ?_⟩) HS.out ?_
              · have q0 := hW.1.cell 0
                have q1 := hW.1.cell 1
                have qz := hW.1.lt
                simp at q0 q1
                go_simp
              simp only [Act.put]
              have s12_ := S12.out.c6
              refine wpAnyE_step (i := 3) rfl (by kernel_rfl) (fun KQ HK => ?_)
              go_wp2
              refine HK _ _ (fun _ => HS.out) ?_
              clear HK
              clear s12_
              refine wpAnyE_step (i := 5) rfl (by kernel_rfl) (fun KQ HK => ?_)
              have KX := Lib.hid (KA1.out u3)
              go_wp2_with fail
              refine KX.out.mono ?_
              rintro e u4 ⟨rfl, bel⟩
              clear KX HS
              have bmv := bel
              have S11' := Lib.hid (S11.out.below bmv)
              have S12' := Lib.hid (S12.out.below bmv)
              have Q4' := Lib.hid (Q4.out.below bmv)
              have S17' := Lib.hid (S17.out.below bmv)
              have HC' := Lib.hid (HC.out.trans (bmv.mono HC.out.size))
              clear bmv S11 S12 Q4 S17 HC
              have S11 := Lib.hid S11'.out
              have S12 := Lib.hid S12'.out
              have Q4 := Lib.hid Q4'.out
              have S17 := Lib.hid S17'.out
              have HC := Lib.hid HC'.out
              clear S11' S12' Q4' S17' HC'
              clear bel
              have HS := Lib.hid (show (fun Wo => HasBlk Wo x17 109 #[.int .i64 (tlo (m 1) a1 b1), .int .i64 (thi (m 1) a1 b1)] ∧ HasBlk Wo x17 109 #[.int .i64 (tlo (m 1) a1 b1), .int .i64 (thi (m 1) a1 b1)]) u4 from ⟨S17.out, S17.out⟩)
              go_wp2
              refine HK _ _ (fun _ => HS.out) ?_
              clear HK
              refine wpAnyE_takeA (i := 6) (v := .tuple #[.agg #[.int .i64 (tlo (m 0) a0 b0 + tlo (m 1) a1 b1), .int .i64 (thi (m 0) a0 b0 + thi (m 1) a1 b1)], .int .i64 0]) rfl (by kernel_rfl) (fun _ _ _ h => h) (.inl ⟨by first | kernel_rfl | rfl, fun W hW => by go_simp⟩) HS.out ?_
              simp only [Act.put, List.setIfInBounds_toArray]
              refine wpAnyE_takeA (i := 7) (v := .agg #[.int .i64 (tlo (m 0) a0 b0 + tlo (m 1) a1 b1), .int .i64 (thi (m 0) a0 b0 + thi (m 1) a1 b1)]) rfl (by kernel_rfl) (fun _ _ _ h => h) (.inl ⟨by first | kernel_rfl | rfl, fun W hW => by go_simp⟩) HS.out ?_
              simp only [Act.put]
              refine wpAnyE_takeA (i := 8) (v := .int .i64 0) rfl (by kernel_rfl) (fun _ _ _ h => h) (.inl ⟨by first | kernel_rfl | rfl, fun W hW => by go_simp⟩) HS.out ?_
              simp only [Act.put]
              refine wpAnyE_takeA (i := 9) (v := .pointer (some ⟨(x11 + 1), 0, none⟩)) rfl (by kernel_rfl) (fun _ _ _ h => h) (.inl ⟨by first | kernel_rfl | rfl, fun W hW => by go_simp⟩) HS.out ?_
              simp only [Act.put]
              have s12_ := S12.out.f6
              have hs17 : (x11 + 1) < x17 := L17.out
              have hq4 : (w.heap.size + 1 + 1) < x11 := LX.out
              refine wpAnyE_step (i := 10) rfl (by kernel_rfl) (fun KQ HK => ?_)
              go_wp2
              have R12 := Lib.hid (show HasBlk ((u4.setCell ⟨(x11 + 1), 0, none⟩ (.int .i64 (tlo (m 0) a0 b0 + tlo (m 1) a1 b1))).setCell ⟨(x11 + 1), 1, none⟩ (.int .i64 (thi (m 0) a0 b0 + thi (m 1) a1 b1))) (x11 + 1) 110 #[.int .i64 (tlo (m 0) a0 b0 + tlo (m 1) a1 b1), .int .i64 (thi (m 0) a0 b0 + thi (m 1) a1 b1), .int .i64 0, .int .i64 0, .int .i64 0, .int .i64 0] by simpa using (S12.out.set 0 (.int .i64 (tlo (m 0) a0 b0 + tlo (m 1) a1 b1))).set 1 (.int .i64 (thi (m 0) a0 b0 + thi (m 1) a1 b1)))
              have R11 := Lib.hid (show HasBlk ((u4.setCell ⟨(x11 + 1), 0, none⟩ (.int .i64 (tlo (m 0) a0 b0 + tlo (m 1) a1 b1))).setCell ⟨(x11 + 1), 1, none⟩ (.int .i64 (thi (m 0) a0 b0 + thi (m 1) a1 b1))) x11 110 #[.int .i64 a0, .int .i64 b0, .int .i64 a1, .int .i64 b1, .int .i64 a2, .int .i64 b2] from ((S11.out.far (p := ⟨(x11 + 1), 0, none⟩) (by first | omega | (simp; done) | (simp; omega)) (.int .i64 (tlo (m 0) a0 b0 + tlo (m 1) a1 b1))).far (p := ⟨(x11 + 1), 1, none⟩) (by first | omega | (simp; done) | (simp; omega)) (.int .i64 (thi (m 0) a0 b0 + thi (m 1) a1 b1))))
              have R4 := Lib.hid (show HasBlk ((u4.setCell ⟨(x11 + 1), 0, none⟩ (.int .i64 (tlo (m 0) a0 b0 + tlo (m 1) a1 b1))).setCell ⟨(x11 + 1), 1, none⟩ (.int .i64 (thi (m 0) a0 b0 + thi (m 1) a1 b1))) (w.heap.size + 1 + 1) 50 #[.int .i64 0, .int .i64 0, .int .i64 0, .int .i64 0, .int .i64 0, .int .i64 0] from ((Q4.out.far (p := ⟨(x11 + 1), 0, none⟩) (by first | omega | (simp; done) | (simp; omega)) (.int .i64 (tlo (m 0) a0 b0 + tlo (m 1) a1 b1))).far (p := ⟨(x11 + 1), 1, none⟩) (by first | omega | (simp; done) | (simp; omega)) (.int .i64 (thi (m 0) a0 b0 + thi (m 1) a1 b1))))
              have R17 := Lib.hid (show HasBlk ((u4.setCell ⟨(x11 + 1), 0, none⟩ (.int .i64 (tlo (m 0) a0 b0 + tlo (m 1) a1 b1))).setCell ⟨(x11 + 1), 1, none⟩ (.int .i64 (thi (m 0) a0 b0 + thi (m 1) a1 b1))) x17 109 #[.int .i64 (tlo (m 1) a1 b1), .int .i64 (thi (m 1) a1 b1)] from ((S17.out.far (p := ⟨(x11 + 1), 0, none⟩) (by first | omega | (simp; done) | (simp; omega)) (.int .i64 (tlo (m 0) a0 b0 + tlo (m 1) a1 b1))).far (p := ⟨(x11 + 1), 1, none⟩) (by first | omega | (simp; done) | (simp; omega)) (.int .i64 (thi (m 0) a0 b0 + thi (m 1) a1 b1))))
              have HD := Lib.hid (show Below w.heap.size w ((u4.setCell ⟨(x11 + 1), 0, none⟩ (.int .i64 (tlo (m 0) a0 b0 + tlo (m 1) a1 b1))).setCell ⟨(x11 + 1), 1, none⟩ (.int .i64 (thi (m 0) a0 b0 + thi (m 1) a1 b1))) from Below.setCell (Below.setCell HC.out (by first | omega | (simp; done) | (simp; omega)) _) (by first | omega | (simp; done) | (simp; omega)) _)
              have HS2 := Lib.hid (show (fun Wo => HasBlk Wo x17 109 #[.int .i64 (tlo (m 1) a1 b1), .int .i64 (thi (m 1) a1 b1)] ∧ HasBlk Wo x17 109 #[.int .i64 (tlo (m 1) a1 b1), .int .i64 (thi (m 1) a1 b1)]) ((u4.setCell ⟨(x11 + 1), 0, none⟩ (.int .i64 (tlo (m 0) a0 b0 + tlo (m 1) a1 b1))).setCell ⟨(x11 + 1), 1, none⟩ (.int .i64 (thi (m 0) a0 b0 + thi (m 1) a1 b1))) from ⟨R17.out, R17.out⟩)
              clear s12_
              clear S12 S11 Q4 S17 HC HS hs17
              refine HK _ _ (fun _ => HS2.out) ?_
              clear HK
              generalize ((u4.setCell ⟨(x11 + 1), 0, none⟩ (.int .i64 (tlo (m 0) a0 b0 + tlo (m 1) a1 b1))).setCell ⟨(x11 + 1), 1, none⟩ (.int .i64 (thi (m 0) a0 b0 + thi (m 1) a1 b1))) = u5 at *
              refine wpAnyE_takeA (i := 11) (v := .int .i64 0) rfl (by kernel_rfl) (fun _ _ _ h => h) (.inl ⟨by first | kernel_rfl | rfl, fun W hW => by go_simp⟩) HS2.out ?_
              simp only [Act.put, List.setIfInBounds_toArray]
              refine wpAnyE_done (by kernel_rfl) ?_
              go_wp2
              go_roundw
              case rel => exact Lib.hid (.inr (.inr ((.inl ⟨by go_num, R12.out, R11.out, R4.out, HD.out⟩))))
              case measure => simp [intOf]
            · have hx3 := ix_num2
              have S12 := Lib.hid h1
              have S11 := Lib.hid h2
              have Q4 := Lib.hid h3
              have HC := Lib.hid h4
              clear h1 h2 h3 h4
              have s11_ := S11.out.c6
              go_wp2_with fail
              refine (KS2.out _).mono ?_
              rintro e u1 ⟨rfl, bel⟩
              clear s11_
              have bmv := bel
              have S11' := Lib.hid (S11.out.below bmv)
              have S12' := Lib.hid (S12.out.below bmv)
              have Q4' := Lib.hid (Q4.out.below bmv)
              have HC' := Lib.hid (HC.out.trans (bmv.mono HC.out.size))
              clear bmv S11 S12 Q4 HC
              have S11 := Lib.hid S11'.out
              have S12 := Lib.hid S12'.out
              have Q4 := Lib.hid Q4'.out
              have HC := Lib.hid HC'.out
              clear S11' S12' Q4' HC'
              clear bel hx3
              go_upto_region 25 with fail
              have S17 := Lib.hid (hasBlk_new u1 109 #[.int .i64 (tlo (m 2) a2 b2), .int .i64 (thi (m 2) a2 b2)])
              have hl17 := S12.out.lt
              have bA := (Below.refl u1.heap.size u1).alloc (Nat.le_refl _) (.cells #[.int .i64 (tlo (m 2) a2 b2), .int .i64 (thi (m 2) a2 b2)] 109)
              have bmv := bA
              have S11' := Lib.hid (S11.out.below bmv)
              have S12' := Lib.hid (S12.out.below bmv)
              have Q4' := Lib.hid (Q4.out.below bmv)
              have HC' := Lib.hid (HC.out.trans (bmv.mono HC.out.size))
              clear bmv S11 S12 Q4 HC
              have S11 := Lib.hid S11'.out
              have S12 := Lib.hid S12'.out
              have Q4 := Lib.hid Q4'.out
              have HC := Lib.hid HC'.out
              clear S11' S12' Q4' HC'
              clear bA
              obtain ⟨x17, hx17⟩ : ∃ x17, x17 = u1.heap.size := ⟨_, rfl⟩
              rw [← hx17] at S17 hl17 ⊢
              have L17 := Lib.hid hl17
              clear hx17 hl17
              generalize u1.alloc (.cells #[.int .i64 (tlo (m 2) a2 b2), .int .i64 (thi (m 2) a2 b2)] 109) = u2 at *
              have bd := (Below.refl u2.heap.size u2).drew
              have bmv := bd
              have S11' := Lib.hid (S11.out.below bmv)
              have S12' := Lib.hid (S12.out.below bmv)
              have Q4' := Lib.hid (Q4.out.below bmv)
              have S17' := Lib.hid (S17.out.below bmv)
              have HC' := Lib.hid (HC.out.trans (bmv.mono HC.out.size))
              clear bmv S11 S12 Q4 S17 HC
              have S11 := Lib.hid S11'.out
              have S12 := Lib.hid S12'.out
              have Q4 := Lib.hid Q4'.out
              have S17 := Lib.hid S17'.out
              have HC := Lib.hid HC'.out
              clear S11' S12' Q4' S17' HC'
              clear bd
              have HS := Lib.hid (show (fun Wo => HasBlk Wo x17 109 #[.int .i64 (tlo (m 2) a2 b2), .int .i64 (thi (m 2) a2 b2)] ∧ HasBlk Wo x17 109 #[.int .i64 (tlo (m 2) a2 b2), .int .i64 (thi (m 2) a2 b2)]) u2.drew from ⟨S17.out, S17.out⟩)
              refine wp_region_E (fun Wo => HasBlk Wo x17 109 #[.int .i64 (tlo (m 2) a2 b2), .int .i64 (thi (m 2) a2 b2)] ∧ HasBlk Wo x17 109 #[.int .i64 (tlo (m 2) a2 b2), .int .i64 (thi (m 2) a2 b2)]) 99 (by kernel_rfl) ?_
              generalize u2.drew = u3 at *
              refine wpAnyE_takeA (i := 0) (v := .int .i64 0) rfl (by kernel_rfl) (fun _ _ _ h => h) (.inl ⟨by first | kernel_rfl | rfl, fun W hW => by go_simp⟩) HS.out ?_
              simp only [Act.put, List.setIfInBounds_toArray]
              refine wpAnyE_takeA (i := 1) (v := .int .i64 0) rfl (by kernel_rfl) (fun _ _ _ h => h) (.inl ⟨by first | kernel_rfl | rfl, fun W hW => by go_simp⟩) HS.out ?_
              simp only [Act.put]
              refine wpAnyE_takeA (i := 2) (v := .pointer (some ⟨(x11 + 1), 0, none⟩)) rfl (by kernel_rfl) (fun _ _ _ h => h) (.inl ⟨by first | kernel_rfl | rfl, fun W hW => by go_simp⟩) HS.out ?_
              simp only [Act.put]
              refine wpAnyE_takeA (i := 4) (v := .agg #[.int .i64 (tlo (m 2) a2 b2), .int .i64 (thi (m 2) a2 b2)]) rfl (by kernel_rfl) (fun _ _ _ h => h) (.inl ⟨by first | kernel_rfl | rfl, fun W hW => ?_⟩) HS.out ?_
              · have q0 := hW.1.cell 0
                have q1 := hW.1.cell 1
                have qz := hW.1.lt
                simp at q0 q1
                go_simp
              simp only [Act.put]
              have s12_ := S12.out.c6
              refine wpAnyE_step (i := 3) rfl (by kernel_rfl) (fun KQ HK => ?_)
              go_wp2
              refine HK _ _ (fun _ => HS.out) ?_
              clear HK
              clear s12_
              refine wpAnyE_step (i := 5) rfl (by kernel_rfl) (fun KQ HK => ?_)
              have KX := Lib.hid (KA2.out u3)
              go_wp2_with fail
              refine KX.out.mono ?_
              rintro e u4 ⟨rfl, bel⟩
              clear KX HS
              have bmv := bel
              have S11' := Lib.hid (S11.out.below bmv)
              have S12' := Lib.hid (S12.out.below bmv)
              have Q4' := Lib.hid (Q4.out.below bmv)
              have S17' := Lib.hid (S17.out.below bmv)
              have HC' := Lib.hid (HC.out.trans (bmv.mono HC.out.size))
              clear bmv S11 S12 Q4 S17 HC
              have S11 := Lib.hid S11'.out
              have S12 := Lib.hid S12'.out
              have Q4 := Lib.hid Q4'.out
              have S17 := Lib.hid S17'.out
              have HC := Lib.hid HC'.out
              clear S11' S12' Q4' S17' HC'
              clear bel
              have HS := Lib.hid (show (fun Wo => HasBlk Wo x17 109 #[.int .i64 (tlo (m 2) a2 b2), .int .i64 (thi (m 2) a2 b2)] ∧ HasBlk Wo x17 109 #[.int .i64 (tlo (m 2) a2 b2), .int .i64 (thi (m 2) a2 b2)]) u4 from ⟨S17.out, S17.out⟩)
              go_wp2
              refine HK _ _ (fun _ => HS.out) ?_
              clear HK
              refine wpAnyE_takeA (i := 6) (v := .tuple #[.agg #[.int .i64 (tlo (m 0) a0 b0 + tlo (m 1) a1 b1 + tlo (m 2) a2 b2), .int .i64 (thi (m 0) a0 b0 + thi (m 1) a1 b1 + thi (m 2) a2 b2)], .int .i64 0]) rfl (by kernel_rfl) (fun _ _ _ h => h) (.inl ⟨by first | kernel_rfl | rfl, fun W hW => by go_simp⟩) HS.out ?_
              simp only [Act.put, List.setIfInBounds_toArray]
              refine wpAnyE_takeA (i := 7) (v := .agg #[.int .i64 (tlo (m 0) a0 b0 + tlo (m 1) a1 b1 + tlo (m 2) a2 b2), .int .i64 (thi (m 0) a0 b0 + thi (m 1) a1 b1 + thi (m 2) a2 b2)]) rfl (by kernel_rfl) (fun _ _ _ h => h) (.inl ⟨by first | kernel_rfl | rfl, fun W hW => by go_simp⟩) HS.out ?_
              simp only [Act.put]
              refine wpAnyE_takeA (i := 8) (v := .int .i64 0) rfl (by kernel_rfl) (fun _ _ _ h => h) (.inl ⟨by first | kernel_rfl | rfl, fun W hW => by go_simp⟩) HS.out ?_
              simp only [Act.put]
              refine wpAnyE_takeA (i := 9) (v := .pointer (some ⟨(x11 + 1), 0, none⟩)) rfl (by kernel_rfl) (fun _ _ _ h => h) (.inl ⟨by first | kernel_rfl | rfl, fun W hW => by go_simp⟩) HS.out ?_
              simp only [Act.put]
              have s12_ := S12.out.f6
              have hs17 : (x11 + 1) < x17 := L17.out
              have hq4 : (w.heap.size + 1 + 1) < x11 := LX.out
              refine wpAnyE_step (i := 10) rfl (by kernel_rfl) (fun KQ HK => ?_)
              go_wp2
              have R12 := Lib.hid (show HasBlk ((u4.setCell ⟨(x11 + 1), 0, none⟩ (.int .i64 (tlo (m 0) a0 b0 + tlo (m 1) a1 b1 + tlo (m 2) a2 b2))).setCell ⟨(x11 + 1), 1, none⟩ (.int .i64 (thi (m 0) a0 b0 + thi (m 1) a1 b1 + thi (m 2) a2 b2))) (x11 + 1) 110 #[.int .i64 (tlo (m 0) a0 b0 + tlo (m 1) a1 b1 + tlo (m 2) a2 b2), .int .i64 (thi (m 0) a0 b0 + thi (m 1) a1 b1 + thi (m 2) a2 b2), .int .i64 0, .int .i64 0, .int .i64 0, .int .i64 0] by simpa using (S12.out.set 0 (.int .i64 (tlo (m 0) a0 b0 + tlo (m 1) a1 b1 + tlo (m 2) a2 b2))).set 1 (.int .i64 (thi (m 0) a0 b0 + thi (m 1) a1 b1 + thi (m 2) a2 b2)))
              have R11 := Lib.hid (show HasBlk ((u4.setCell ⟨(x11 + 1), 0, none⟩ (.int .i64 (tlo (m 0) a0 b0 + tlo (m 1) a1 b1 + tlo (m 2) a2 b2))).setCell ⟨(x11 + 1), 1, none⟩ (.int .i64 (thi (m 0) a0 b0 + thi (m 1) a1 b1 + thi (m 2) a2 b2))) x11 110 #[.int .i64 a0, .int .i64 b0, .int .i64 a1, .int .i64 b1, .int .i64 a2, .int .i64 b2] from ((S11.out.far (p := ⟨(x11 + 1), 0, none⟩) (by first | omega | (simp; done) | (simp; omega)) (.int .i64 (tlo (m 0) a0 b0 + tlo (m 1) a1 b1 + tlo (m 2) a2 b2))).far (p := ⟨(x11 + 1), 1, none⟩) (by first | omega | (simp; done) | (simp; omega)) (.int .i64 (thi (m 0) a0 b0 + thi (m 1) a1 b1 + thi (m 2) a2 b2))))
              have R4 := Lib.hid (show HasBlk ((u4.setCell ⟨(x11 + 1), 0, none⟩ (.int .i64 (tlo (m 0) a0 b0 + tlo (m 1) a1 b1 + tlo (m 2) a2 b2))).setCell ⟨(x11 + 1), 1, none⟩ (.int .i64 (thi (m 0) a0 b0 + thi (m 1) a1 b1 + thi (m 2) a2 b2))) (w.heap.size + 1 + 1) 50 #[.int .i64 0, .int .i64 0, .int .i64 0, .int .i64 0, .int .i64 0, .int .i64 0] from ((Q4.out.far (p := ⟨(x11 + 1), 0, none⟩) (by first | omega | (simp; done) | (simp; omega)) (.int .i64 (tlo (m 0) a0 b0 + tlo (m 1) a1 b1 + tlo (m 2) a2 b2))).far (p := ⟨(x11 + 1), 1, none⟩) (by first | omega | (simp; done) | (simp; omega)) (.int .i64 (thi (m 0) a0 b0 + thi (m 1) a1 b1 + thi (m 2) a2 b2))))
              have R17 := Lib.hid (show HasBlk ((u4.setCell ⟨(x11 + 1), 0, none⟩ (.int .i64 (tlo (m 0) a0 b0 + tlo (m 1) a1 b1 + tlo (m 2) a2 b2))).setCell ⟨(x11 + 1), 1, none⟩ (.int .i64 (thi (m 0) a0 b0 + thi (m 1) a1 b1 + thi (m 2) a2 b2))) x17 109 #[.int .i64 (tlo (m 2) a2 b2), .int .i64 (thi (m 2) a2 b2)] from ((S17.out.far (p := ⟨(x11 + 1), 0, none⟩) (by first | omega | (simp; done) | (simp; omega)) (.int .i64 (tlo (m 0) a0 b0 + tlo (m 1) a1 b1 + tlo (m 2) a2 b2))).far (p := ⟨(x11 + 1), 1, none⟩) (by first | omega | (simp; done) | (simp; omega)) (.int .i64 (thi (m 0) a0 b0 + thi (m 1) a1 b1 + thi (m 2) a2 b2))))
              have HD := Lib.hid (show Below w.heap.size w ((u4.setCell ⟨(x11 + 1), 0, none⟩ (.int .i64 (tlo (m 0) a0 b0 + tlo (m 1) a1 b1 + tlo (m 2) a2 b2))).setCell ⟨(x11 + 1), 1, none⟩ (.int .i64 (thi (m 0) a0 b0 + thi (m 1) a1 b1 + thi (m 2) a2 b2))) from Below.setCell (Below.setCell HC.out (by first | omega | (simp; done) | (simp; omega)) _) (by first | omega | (simp; done) | (simp; omega)) _)
              have HS2 := Lib.hid (show (fun Wo => HasBlk Wo x17 109 #[.int .i64 (tlo (m 2) a2 b2), .int .i64 (thi (m 2) a2 b2)] ∧ HasBlk Wo x17 109 #[.int .i64 (tlo (m 2) a2 b2), .int .i64 (thi (m 2) a2 b2)]) ((u4.setCell ⟨(x11 + 1), 0, none⟩ (.int .i64 (tlo (m 0) a0 b0 + tlo (m 1) a1 b1 + tlo (m 2) a2 b2))).setCell ⟨(x11 + 1), 1, none⟩ (.int .i64 (thi (m 0) a0 b0 + thi (m 1) a1 b1 + thi (m 2) a2 b2))) from ⟨R17.out, R17.out⟩)
              clear s12_
              clear S12 S11 Q4 S17 HC HS hs17
              refine HK _ _ (fun _ => HS2.out) ?_
              clear HK
              generalize ((u4.setCell ⟨(x11 + 1), 0, none⟩ (.int .i64 (tlo (m 0) a0 b0 + tlo (m 1) a1 b1 + tlo (m 2) a2 b2))).setCell ⟨(x11 + 1), 1, none⟩ (.int .i64 (thi (m 0) a0 b0 + thi (m 1) a1 b1 + thi (m 2) a2 b2))) = u5 at *
              refine wpAnyE_takeA (i := 11) (v := .int .i64 0) rfl (by kernel_rfl) (fun _ _ _ h => h) (.inl ⟨by first | kernel_rfl | rfl, fun W hW => by go_simp⟩) HS2.out ?_
              simp only [Act.put, List.setIfInBounds_toArray]
              refine wpAnyE_done (by kernel_rfl) ?_
              go_wp2
              go_roundw
              case rel => exact Lib.hid (.inr (.inr (.inr (⟨by go_num, R12.out, R11.out, R4.out, HD.out⟩))))
              case measure => simp [intOf]
            · have S12 := Lib.hid h1
              have S11 := Lib.hid h2
              have Q4 := Lib.hid h3
              have HC := Lib.hid h4
              have hq4 : (w.heap.size + 1 + 1) < x11 := LX.out
              clear h1 h2 h3 h4
              have s12_ := S12.out.c6
              go_wp2_with fail
              refine (KD0.out _).mono ?_
              rintro e u1 ⟨rfl, bel⟩
              clear s12_
              have bmv := bel
              have S11' := Lib.hid (S11.out.below bmv)
              have S12' := Lib.hid (S12.out.below bmv)
              have Q4' := Lib.hid (Q4.out.below bmv)
              have HC' := Lib.hid (HC.out.trans (bmv.mono HC.out.size))
              clear bmv S11 S12 Q4 HC
              have S11 := Lib.hid S11'.out
              have S12 := Lib.hid S12'.out
              have Q4 := Lib.hid Q4'.out
              have HC := Lib.hid HC'.out
              clear S11' S12' Q4' HC'
              clear bel
              have s12_ := S12.out.f6
              go_upto_region 31 with fail
              have R12 := Lib.hid (show HasBlk ((u1.setCell ⟨(x11 + 1), 0, none⟩ (.int .i64 ((tlo (m 0) a0 b0 + tlo (m 1) a1 b1 + tlo (m 2) a2 b2) / 256))).setCell ⟨(x11 + 1), 1, none⟩ (.int .i64 ((thi (m 0) a0 b0 + thi (m 1) a1 b1 + thi (m 2) a2 b2) / 256))) (x11 + 1) 110 #[.int .i64 ((tlo (m 0) a0 b0 + tlo (m 1) a1 b1 + tlo (m 2) a2 b2) / 256), .int .i64 ((thi (m 0) a0 b0 + thi (m 1) a1 b1 + thi (m 2) a2 b2) / 256), .int .i64 (0), .int .i64 (0), .int .i64 0, .int .i64 0] by simpa using (S12.out.set 0 (.int .i64 ((tlo (m 0) a0 b0 + tlo (m 1) a1 b1 + tlo (m 2) a2 b2) / 256))).set 1 (.int .i64 ((thi (m 0) a0 b0 + thi (m 1) a1 b1 + thi (m 2) a2 b2) / 256)))
              have R11 := Lib.hid (show HasBlk ((u1.setCell ⟨(x11 + 1), 0, none⟩ (.int .i64 ((tlo (m 0) a0 b0 + tlo (m 1) a1 b1 + tlo (m 2) a2 b2) / 256))).setCell ⟨(x11 + 1), 1, none⟩ (.int .i64 ((thi (m 0) a0 b0 + thi (m 1) a1 b1 + thi (m 2) a2 b2) / 256))) x11 110 #[.int .i64 a0, .int .i64 b0, .int .i64 a1, .int .i64 b1, .int .i64 a2, .int .i64 b2] from ((S11.out.far (p := ⟨(x11 + 1), 0, none⟩) (by first | omega | (simp; done) | (simp; omega)) (.int .i64 ((tlo (m 0) a0 b0 + tlo (m 1) a1 b1 + tlo (m 2) a2 b2) / 256))).far (p := ⟨(x11 + 1), 1, none⟩) (by first | omega | (simp; done) | (simp; omega)) (.int .i64 ((thi (m 0) a0 b0 + thi (m 1) a1 b1 + thi (m 2) a2 b2) / 256))))
              have R4 := Lib.hid (show HasBlk ((u1.setCell ⟨(x11 + 1), 0, none⟩ (.int .i64 ((tlo (m 0) a0 b0 + tlo (m 1) a1 b1 + tlo (m 2) a2 b2) / 256))).setCell ⟨(x11 + 1), 1, none⟩ (.int .i64 ((thi (m 0) a0 b0 + thi (m 1) a1 b1 + thi (m 2) a2 b2) / 256))) (w.heap.size + 1 + 1) 50 #[.int .i64 0, .int .i64 0, .int .i64 0, .int .i64 0, .int .i64 0, .int .i64 0] from ((Q4.out.far (p := ⟨(x11 + 1), 0, none⟩) (by first | omega | (simp; done) | (simp; omega)) (.int .i64 ((tlo (m 0) a0 b0 + tlo (m 1) a1 b1 + tlo (m 2) a2 b2) / 256))).far (p := ⟨(x11 + 1), 1, none⟩) (by first | omega | (simp; done) | (simp; omega)) (.int .i64 ((thi (m 0) a0 b0 + thi (m 1) a1 b1 + thi (m 2) a2 b2) / 256))))
              have HD := Lib.hid (show Below w.heap.size w ((u1.setCell ⟨(x11 + 1), 0, none⟩ (.int .i64 ((tlo (m 0) a0 b0 + tlo (m 1) a1 b1 + tlo (m 2) a2 b2) / 256))).setCell ⟨(x11 + 1), 1, none⟩ (.int .i64 ((thi (m 0) a0 b0 + thi (m 1) a1 b1 + thi (m 2) a2 b2) / 256))) from Below.setCell (Below.setCell HC.out (by first | omega | (simp; done) | (simp; omega)) _) (by first | omega | (simp; done) | (simp; omega)) _)
              clear s12_
              clear S12 S11 Q4 HC
              generalize ((u1.setCell ⟨(x11 + 1), 0, none⟩ (.int .i64 ((tlo (m 0) a0 b0 + tlo (m 1) a1 b1 + tlo (m 2) a2 b2) / 256))).setCell ⟨(x11 + 1), 1, none⟩ (.int .i64 ((thi (m 0) a0 b0 + thi (m 1) a1 b1 + thi (m 2) a2 b2) / 256))) = u5 at *
              go_wp2
              go_roundw
              case rel => exact Lib.hid (.inr ((.inl ⟨by go_num, R12.out, R11.out, R4.out, HD.out⟩)))
              case measure => simp [intOf]
        · have hx1 := ixm_row1 m
          have S12 := Lib.hid h1
          have S11 := Lib.hid h2
          have Q4 := Lib.hid h3
          have HC := Lib.hid h4
          clear h1 h2 h3 h4
          go_upto_region 19 with fail
          have S14 := Lib.hid (hasBlk_new wr 28 #[.int .i64 (m 3), .int .i64 (m 4), .int .i64 (m 5)])
          have bA := (Below.refl wr.heap.size wr).alloc (Nat.le_refl _) (.cells #[.int .i64 (m 3), .int .i64 (m 4), .int .i64 (m 5)] 28)
          have bmv := bA
          have S11' := Lib.hid (S11.out.below bmv)
          have S12' := Lib.hid (S12.out.below bmv)
          have Q4' := Lib.hid (Q4.out.below bmv)
          have HC' := Lib.hid (HC.out.trans (bmv.mono HC.out.size))
          clear bmv S11 S12 Q4 HC
          have S11 := Lib.hid S11'.out
          have S12 := Lib.hid S12'.out
          have Q4 := Lib.hid Q4'.out
          have HC := Lib.hid HC'.out
          clear S11' S12' Q4' HC'
          clear bA hx1
          obtain ⟨x14, hx14⟩ : ∃ x14, x14 = wr.heap.size := ⟨_, rfl⟩
          rw [← hx14] at S14 ⊢
          clear hx14
          generalize wr.alloc (.cells #[.int .i64 (m 3), .int .i64 (m 4), .int .i64 (m 5)] 28) = u0 at *
          have s14_ := S14.out.c3
          go_wp2
          clear s14_
          clear S14
          go_loopw [52] (fun s52 wr => RowKit.Hid ((s52 = .int .i64 (0 : Nat) ∧ HasBlk wr (x11 + 1) 110 #[.int .i64 ((tlo (m 0) a0 b0 + tlo (m 1) a1 b1 + tlo (m 2) a2 b2) / 256), .int .i64 ((thi (m 0) a0 b0 + thi (m 1) a1 b1 + thi (m 2) a2 b2) / 256), .int .i64 (0), .int .i64 (0), .int .i64 0, .int .i64 0] ∧ HasBlk wr x11 110 #[.int .i64 a0, .int .i64 b0, .int .i64 a1, .int .i64 b1, .int .i64 a2, .int .i64 b2] ∧ HasBlk wr (w.heap.size + 1 + 1) 50 #[.int .i64 0, .int .i64 0, .int .i64 0, .int .i64 0, .int .i64 0, .int .i64 0] ∧ Below w.heap.size w wr) ∨ ((s52 = .int .i64 (1 : Nat) ∧ HasBlk wr (x11 + 1) 110 #[.int .i64 ((tlo (m 0) a0 b0 + tlo (m 1) a1 b1 + tlo (m 2) a2 b2) / 256), .int .i64 ((thi (m 0) a0 b0 + thi (m 1) a1 b1 + thi (m 2) a2 b2) / 256), .int .i64 (tlo (m 3) a0 b0), .int .i64 (thi (m 3) a0 b0), .int .i64 0, .int .i64 0] ∧ HasBlk wr x11 110 #[.int .i64 a0, .int .i64 b0, .int .i64 a1, .int .i64 b1, .int .i64 a2, .int .i64 b2] ∧ HasBlk wr (w.heap.size + 1 + 1) 50 #[.int .i64 0, .int .i64 0, .int .i64 0, .int .i64 0, .int .i64 0, .int .i64 0] ∧ Below w.heap.size w wr) ∨ ((s52 = .int .i64 (2 : Nat) ∧ HasBlk wr (x11 + 1) 110 #[.int .i64 ((tlo (m 0) a0 b0 + tlo (m 1) a1 b1 + tlo (m 2) a2 b2) / 256), .int .i64 ((thi (m 0) a0 b0 + thi (m 1) a1 b1 + thi (m 2) a2 b2) / 256), .int .i64 (tlo (m 3) a0 b0 + tlo (m 4) a1 b1), .int .i64 (thi (m 3) a0 b0 + thi (m 4) a1 b1), .int .i64 0, .int .i64 0] ∧ HasBlk wr x11 110 #[.int .i64 a0, .int .i64 b0, .int .i64 a1, .int .i64 b1, .int .i64 a2, .int .i64 b2] ∧ HasBlk wr (w.heap.size + 1 + 1) 50 #[.int .i64 0, .int .i64 0, .int .i64 0, .int .i64 0, .int .i64 0, .int .i64 0] ∧ Below w.heap.size w wr) ∨ ((s52 = .int .i64 (3 : Nat) ∧ HasBlk wr (x11 + 1) 110 #[.int .i64 ((tlo (m 0) a0 b0 + tlo (m 1) a1 b1 + tlo (m 2) a2 b2) / 256), .int .i64 ((thi (m 0) a0 b0 + thi (m 1) a1 b1 + thi (m 2) a2 b2) / 256), .int .i64 (tlo (m 3) a0 b0 + tlo (m 4) a1 b1 + tlo (m 5) a2 b2), .int .i64 (thi (m 3) a0 b0 + thi (m 4) a1 b1 + thi (m 5) a2 b2), .int .i64 0, .int .i64 0] ∧ HasBlk wr x11 110 #[.int .i64 a0, .int .i64 b0, .int .i64 a1, .int .i64 b1, .int .i64 a2, .int .i64 b2] ∧ HasBlk wr (w.heap.size + 1 + 1) 50 #[.int .i64 0, .int .i64 0, .int .i64 0, .int .i64 0, .int .i64 0, .int .i64 0] ∧ Below w.heap.size w wr)))))) (fun s52 wr => 3 - (intOf s52).toNat)
          case atStart => exact Lib.hid (.inl ⟨rfl, S12.out, S11.out, Q4.out, HC.out⟩)
          case round =>
            clear S12 S11 Q4 HC
            rcases hrel.out with ⟨rfl, h1, h2, h3, h4⟩ | ⟨rfl, h1, h2, h3, h4⟩ | ⟨rfl, h1, h2, h3, h4⟩ | ⟨rfl, h1, h2, h3, h4⟩
            · have hx3 := ix_num0
              have S12 := Lib.hid h1
              have S11 := Lib.hid h2
              have Q4 := Lib.hid h3
              have HC := Lib.hid h4
              clear h1 h2 h3 h4
              have s11_ := S11.out.c6
              go_wp2_with fail
              refine (KS3.out _).mono ?_
              rintro e u1 ⟨rfl, bel⟩
              clear s11_
              have bmv := bel
              have S11' := Lib.hid (S11.out.below bmv)
              have S12' := Lib.hid (S12.out.below bmv)
              have Q4' := Lib.hid (Q4.out.below bmv)
              have HC' := Lib.hid (HC.out.trans (bmv.mono HC.out.size))
              clear bmv S11 S12 Q4 HC
              have S11 := Lib.hid S11'.out
              have S12 := Lib.hid S12'.out
              have Q4 := Lib.hid Q4'.out
              have HC := Lib.hid HC'.out
              clear S11' S12' Q4' HC'
              clear bel hx3
              go_upto_region 25 with fail
              have S17 := Lib.hid (hasBlk_new u1 109 #[.int .i64 (tlo (m 3) a0 b0), .int .i64 (thi (m 3) a0 b0)])
              have hl17 := S12.out.lt
              have bA := (Below.refl u1.heap.size u1).alloc (Nat.le_refl _) (.cells #[.int .i64 (tlo (m 3) a0 b0), .int .i64 (thi (m 3) a0 b0)] 109)
              have bmv := bA
              have S11' := Lib.hid (S11.out.below bmv)
              have S12' := Lib.hid (S12.out.below bmv)
              have Q4' := Lib.hid (Q4.out.below bmv)
              have HC' := Lib.hid (HC.out.trans (bmv.mono HC.out.size))
              clear bmv S11 S12 Q4 HC
              have S11 := Lib.hid S11'.out
              have S12 := Lib.hid S12'.out
              have Q4 := Lib.hid Q4'.out
              have HC := Lib.hid HC'.out
              clear S11' S12' Q4' HC'
              clear bA
              obtain ⟨x17, hx17⟩ : ∃ x17, x17 = u1.heap.size := ⟨_, rfl⟩
              rw [← hx17] at S17 hl17 ⊢
              have L17 := Lib.hid hl17
              clear hx17 hl17
              generalize u1.alloc (.cells #[.int .i64 (tlo (m 3) a0 b0), .int .i64 (thi (m 3) a0 b0)] 109) = u2 at *
              have bd := (Below.refl u2.heap.size u2).drew
              have bmv := bd
              have S11' := Lib.hid (S11.out.below bmv)
              have S12' := Lib.hid (S12.out.below bmv)
              have Q4' := Lib.hid (Q4.out.below bmv)
              have S17' := Lib.hid (S17.out.below bmv)
              have HC' := Lib.hid (HC.out.trans (bmv.mono HC.out.size))
              clear bmv S11 S12 Q4 S17 HC
              have S11 := Lib.hid S11'.out
              have S12 := Lib.hid S12'.out
              have Q4 := Lib.hid Q4'.out
              have S17 := Lib.hid S17'.out
              have HC := Lib.hid HC'.out
              clear S11' S12' Q4' S17' HC'
              clear bd
              have HS := Lib.hid (show (fun Wo => HasBlk Wo x17 109 #[.int .i64 (tlo (m 3) a0 b0), .int .i64 (thi (m 3) a0 b0)] ∧ HasBlk Wo x17 109 #[.int .i64 (tlo (m 3) a0 b0), .int .i64 (thi (m 3) a0 b0)]) u2.drew from ⟨S17.out, S17.out⟩)
              refine wp_region_E (fun Wo => HasBlk Wo x17 109 #[.int .i64 (tlo (m 3) a0 b0), .int .i64 (thi (m 3) a0 b0)] ∧ HasBlk Wo x17 109 #[.int .i64 (tlo (m 3) a0 b0), .int .i64 (thi (m 3) a0 b0)]) 99 (by kernel_rfl) ?_
              generalize u2.drew = u3 at *
              refine wpAnyE_takeA (i := 0) (v := .int .i64 1) rfl (by kernel_rfl) (fun _ _ _ h => h) (.inl ⟨by first | kernel_rfl | rfl, fun W hW => by go_simp⟩) HS.out ?_
              simp only [Act.put, List.setIfInBounds_toArray]
              refine wpAnyE_takeA (i := 1) (v := .int .i64 1) rfl (by kernel_rfl) (fun _ _ _ h => h) (.inl ⟨by first | kernel_rfl | rfl, fun W hW => by go_simp⟩) HS.out ?_
              simp only [Act.put]
              refine wpAnyE_takeA (i := 2) (v := .pointer (some ⟨(x11 + 1), 2, none⟩)) rfl (by kernel_rfl) (fun _ _ _ h => h) (.inl ⟨by first | kernel_rfl | rfl, fun W hW => by go_simp⟩) HS.out ?_
              simp only [Act.put]
              refine wpAnyE_takeA (i := 4) (v := .agg #[.int .i64 (tlo (m 3) a0 b0), .int .i64 (thi (m 3) a0 b0)]) rfl (by kernel_rfl) (fun _ _ _ h => h) (.inl ⟨by first | kernel_rfl | rfl, fun W hW => ?_⟩) HS.out ?_
              · have q0 := hW.1.cell 0
                have q1 := hW.1.cell 1
                have qz := hW.1.lt
                simp at q0 q1
                go_simp
              simp only [Act.put]
              have s12_ := S12.out.c6
              refine wpAnyE_step (i := 3) rfl (by kernel_rfl) (fun KQ HK => ?_)
              go_wp2
              refine HK _ _ (fun _ => HS.out) ?_
              clear HK
              clear s12_
              refine wpAnyE_step (i := 5) rfl (by kernel_rfl) (fun KQ HK => ?_)
              have KX := Lib.hid (KA3.out u3)
              go_wp2_with fail
              refine KX.out.mono ?_
              rintro e u4 ⟨rfl, bel⟩
              clear KX HS
              have bmv := bel
              have S11' := Lib.hid (S11.out.below bmv)
              have S12' := Lib.hid (S12.out.below bmv)
              have Q4' := Lib.hid (Q4.out.below bmv)
              have S17' := Lib.hid (S17.out.below bmv)
              have HC' := Lib.hid (HC.out.trans (bmv.mono HC.out.size))
              clear bmv S11 S12 Q4 S17 HC
              have S11 := Lib.hid S11'.out
              have S12 := Lib.hid S12'.out
              have Q4 := Lib.hid Q4'.out
              have S17 := Lib.hid S17'.out
              have HC := Lib.hid HC'.out
              clear S11' S12' Q4' S17' HC'
              clear bel
              have HS := Lib.hid (show (fun Wo => HasBlk Wo x17 109 #[.int .i64 (tlo (m 3) a0 b0), .int .i64 (thi (m 3) a0 b0)] ∧ HasBlk Wo x17 109 #[.int .i64 (tlo (m 3) a0 b0), .int .i64 (thi (m 3) a0 b0)]) u4 from ⟨S17.out, S17.out⟩)
              go_wp2
              refine HK _ _ (fun _ => HS.out) ?_
              clear HK
              refine wpAnyE_takeA (i := 6) (v := .tuple #[.agg #[.int .i64 (tlo (m 3) a0 b0), .int .i64 (thi (m 3) a0 b0)], .int .i64 0]) rfl (by kernel_rfl) (fun _ _ _ h => h) (.inl ⟨by first | kernel_rfl | rfl, fun W hW => by go_simp⟩) HS.out ?_
              simp only [Act.put, List.setIfInBounds_toArray]
              refine wpAnyE_takeA (i := 7) (v := .agg #[.int .i64 (tlo (m 3) a0 b0), .int .i64 (thi (m 3) a0 b0)]) rfl (by kernel_rfl) (fun _ _ _ h => h) (.inl ⟨by first | kernel_rfl | rfl, fun W hW => by go_simp⟩) HS.out ?_
              simp only [Act.put]
              refine wpAnyE_takeA (i := 8) (v := .int .i64 0) rfl (by kernel_rfl) (fun _ _ _ h => h) (.inl ⟨by first | kernel_rfl | rfl, fun W hW => by go_simp⟩) HS.out ?_
              simp only [Act.put]
              refine wpAnyE_takeA (i := 9) (v := .pointer (some ⟨(x11 + 1), 2, none⟩)) rfl (by kernel_rfl) (fun _ _ _ h => h) (.inl ⟨by first | kernel_rfl | rfl, fun W hW => by go_simp⟩) HS.out ?_
              simp only [Act.put]
              have s12_ := S12.out.f6
              have hs17 : (x11 + 1) < x17 := L17.out
              have hq4 : (w.heap.size + 1 + 1) < x11 := LX.out
              refine wpAnyE_step (i := 10) rfl (by kernel_rfl) (fun KQ HK => ?_)
              go_wp2
              have R12 := Lib.hid (show HasBlk ((u4.setCell ⟨(x11 + 1), 2, none⟩ (.int .i64 (tlo (m 3) a0 b0))).setCell ⟨(x11 + 1), 3, none⟩ (.int .i64 (thi (m 3) a0 b0))) (x11 + 1) 110 #[.int .i64 ((tlo (m 0) a0 b0 + tlo (m 1) a1 b1 + tlo (m 2) a2 b2) / 256), .int .i64 ((thi (m 0) a0 b0 + thi (m 1) a1 b1 + thi (m 2) a2 b2) / 256), .int .i64 (tlo (m 3) a0 b0), .int .i64 (thi (m 3) a0 b0), .int .i64 0, .int .i64 0] by simpa using (S12.out.set 2 (.int .i64 (tlo (m 3) a0 b0))).set 3 (.int .i64 (thi (m 3) a0 b0)))
              have R11 := Lib.hid (show HasBlk ((u4.setCell ⟨(x11 + 1), 2, none⟩ (.int .i64 (tlo (m 3) a0 b0))).setCell ⟨(x11 + 1), 3, none⟩ (.int .i64 (thi (m 3) a0 b0))) x11 110 #[.int .i64 a0, .int .i64 b0, .int .i64 a1, .int .i64 b1, .int .i64 a2, .int .i64 b2] from ((S11.out.far (p := ⟨(x11 + 1), 2, none⟩) (by first | omega | (simp; done) | (simp; omega)) (.int .i64 (tlo (m 3) a0 b0))).far (p := ⟨(x11 + 1), 3, none⟩) (by first | omega | (simp; done) | (simp; omega)) (.int .i64 (thi (m 3) a0 b0))))
              have R4 := Lib.hid (show HasBlk ((u4.setCell ⟨(x11 + 1), 2, none⟩ (.int .i64 (tlo (m 3) a0 b0))).setCell ⟨(x11 + 1), 3, none⟩ (.int .i64 (thi (m 3) a0 b0))) (w.heap.size + 1 + 1) 50 #[.int .i64 0, .int .i64 0, .int .i64 0, .int .i64 0, .int .i64 0, .int .i64 0] from ((Q4.out.far (p := ⟨(x11 + 1), 2, none⟩) (by first | omega | (simp; done) | (simp; omega)) (.int .i64 (tlo (m 3) a0 b0))).far (p := ⟨(x11 + 1), 3, none⟩) (by first | omega | (simp; done) | (simp; omega)) (.int .i64 (thi (m 3) a0 b0))))
              have R17 := Lib.hid (show HasBlk ((u4.setCell ⟨(x11 + 1), 2, none⟩ (.int .i64 (tlo (m 3) a0 b0))).setCell ⟨(x11 + 1), 3, none⟩ (.int .i64 (thi (m 3) a0 b0))) x17 109 #[.int .i64 (tlo (m 3) a0 b0), .int .i64 (thi (m 3) a0 b0)] from ((S17.out.far (p := ⟨(x11 + 1), 2, none⟩) (by first | omega | (simp; done) | (simp; omega)) (.int .i64 (tlo (m 3) a0 b0))).far (p := ⟨(x11 + 1), 3, none⟩) (by first | omega | (simp; done) | (simp; omega)) (.int .i64 (thi (m 3) a0 b0))))
              have HD := Lib.hid (show Below w.heap.size w ((u4.setCell ⟨(x11 + 1), 2, none⟩ (.int .i64 (tlo (m 3) a0 b0))).setCell ⟨(x11 + 1), 3, none⟩ (.int .i64 (thi (m 3) a0 b0))) from Below.setCell (Below.setCell HC.out (by first | omega | (simp; done) | (simp; omega)) _) (by first | omega | (simp; done) | (simp; omega)) _)
              have HS2 := Lib.hid (show (fun Wo => HasBlk Wo x17 109 #[.int .i64 (tlo (m 3) a0 b0), .int .i64 (thi (m 3) a0 b0)] ∧ HasBlk Wo x17 109 #[.int .i64 (tlo (m 3) a0 b0), .int .i64 (thi (m 3) a0 b0)]) ((u4.setCell ⟨(x11 + 1), 2, none⟩ (.int .i64 (tlo (m 3) a0 b0))).setCell ⟨(x11 + 1), 3, none⟩ (.int .i64 (thi (m 3) a0 b0))) from ⟨R17.out, R17.out⟩)
              clear s12_
              clear S12 S11 Q4 S17 HC HS hs17
              refine HK _ _ (fun _ => HS2.out) ?_
              clear HK
              generalize ((u4.setCell ⟨(x11 + 1), 2, none⟩ (.int .i64 (tlo (m 3) a0 b0))).setCell ⟨(x11 + 1), 3, none⟩ (.int .i64 (thi (m 3) a0 b0))) = u5 at *
              refine wpAnyE_takeA (i := 11) (v := .int .i64 0) rfl (by kernel_rfl) (fun _ _ _ h => h) (.inl ⟨by first | kernel_rfl | rfl, fun W hW => by go_simp⟩) HS2.out ?_
              simp only [Act.put, List.setIfInBounds_toArray]
              refine wpAnyE_done (by kernel_rfl) ?_
              go_wp2
              go_roundw
              case rel => exact Lib.hid (.inr ((.inl ⟨by go_num, R12.out, R11.out, R4.out, HD.out⟩)))
              case measure => simp [intOf]
            · have hx3 := ix_num1
              have S12 := Lib.hid h1
              have S11 := Lib.hid h2
              have Q4 := Lib.hid h3
              have HC := Lib.hid h4
              clear h1 h2 h3 h4
              have s11_ := S11.out.c6
              go_wp2_with fail
              refine (KS4.out _).mono ?_
              rintro e u1 ⟨rfl, bel⟩
              clear s11_
              have bmv := bel
              have S11' := Lib.hid (S11.out.below bmv)
              have S12' := Lib.hid (S12.out.below bmv)
              have Q4' := Lib.hid (Q4.out.below bmv)
              have HC' := Lib.hid (HC.out.trans (bmv.mono HC.out.size))
              clear bmv S11 S12 Q4 HC
              have S11 := Lib.hid S11'.out
              have S12 := Lib.hid S12'.out
              have Q4 := Lib.hid Q4'.out
              have HC := Lib.hid HC'.out
              clear S11' S12' Q4' HC'
              clear bel hx3
              go_upto_region 25 with fail
              have S17 := Lib.hid (hasBlk_new u1 109 #[.int .i64 (tlo (m 4) a1 b1), .int .i64 (thi (m 4) a1 b1)])
              have hl17 := S12.out.lt
              have bA := (Below.refl u1.heap.size u1).alloc (Nat.le_refl _) (.cells #[.int .i64 (tlo (m 4) a1 b1), .int .i64 (thi (m 4) a1 b1)] 109)
              have bmv := bA
              have S11' := Lib.hid (S11.out.below bmv)
              have S12' := Lib.hid (S12.out.below bmv)
              have Q4' := Lib.hid (Q4.out.below bmv)
              have HC' := Lib.hid (HC.out.trans (bmv.mono HC.out.size))
              clear bmv S11 S12 Q4 HC
              have S11 := Lib.hid S11'.out
              have S12 := Lib.hid S12'.out
              have Q4 := Lib.hid Q4'.out
              have HC := Lib.hid HC'.out
              clear S11' S12' Q4' HC'
              clear bA
              obtain ⟨x17, hx17⟩ : ∃ x17, x17 = u1.heap.size := ⟨_, rfl⟩
              rw [← hx17] at S17 hl17 ⊢
              have L17 := Lib.hid hl17
              clear hx17 hl17
              generalize u1.alloc (.cells #[.int .i64 (tlo (m 4) a1 b1), .int .i64 (thi (m 4) a1 b1)] 109) = u2 at *
              have bd := (Below.refl u2.heap.size u2).drew
              have bmv := bd
              have S11' := Lib.hid (S11.out.below bmv)
              have S12' := Lib.hid (S12.out.below bmv)
              have Q4' := Lib.hid (Q4.out.below bmv)
              have S17' := Lib.hid (S17.out.below bmv)
              have HC' := Lib.hid (HC.out.trans (bmv.mono HC.out.size))
              clear bmv S11 S12 Q4 S17 HC
              have S11 := Lib.hid S11'.out
              have S12 := Lib.hid S12'.out
              have Q4 := Lib.hid Q4'.out
              have S17 := Lib.hid S17'.out
              have HC := Lib.hid HC'.out
              clear S11' S12' Q4' S17' HC'
              clear bd
              have HS := Lib.hid (show (fun Wo => HasBlk Wo x17 109 #[.int .i64 (tlo (m 4) a1 b1), .int .i64 (thi (m 4) a1 b1)] ∧ HasBlk Wo x17 109 #[.int .i64 (tlo (m 4) a1 b1), .int .i64 (thi (m 4) a1 b1)]) u2.drew from ⟨S17.out, S17.out⟩)
              refine wp_region_E (fun Wo => HasBlk Wo x17 109 #[.int .i64 (tlo (m 4) a1 b1), .int .i64 (thi (m 4) a1 b1)] ∧ HasBlk Wo x17 109 #[.int .i64 (tlo (m 4) a1 b1), .int .i64 (thi (m 4) a1 b1)]) 99 (by kernel_rfl) ?_
              generalize u2.drew = u3 at *
              refine wpAnyE_takeA (i := 0) (v := .int .i64 1) rfl (by kernel_rfl) (fun _ _ _ h => h) (.inl ⟨by first | kernel_rfl | rfl, fun W hW => by go_simp⟩) HS.out ?_
              simp only [Act.put, List.setIfInBounds_toArray]
              refine wpAnyE_takeA (i := 1) (v := .int .i64 1) rfl (by kernel_rfl) (fun _ _ _ h => h) (.inl ⟨by first | kernel_rfl | rfl, fun W hW => by go_simp⟩) HS.out ?_
              simp only [Act.put]
              refine wpAnyE_takeA (i := 2) (v := .pointer (some ⟨(x11 + 1), 2, none⟩)) rfl (by kernel_rfl) (fun _ _ _ h => h) (.inl ⟨by first | kernel_rfl | rfl, fun W hW => by go_simp⟩) HS.out ?_
              simp only [Act.put]
              refine wpAnyE_takeA (i := 4) (v := .agg #[.int .i64 (tlo (m 4) a1 b1), .int .i64 (thi (m 4) a1 b1)]) rfl (by kernel_rfl) (fun _ _ _ h => h) (.inl ⟨by first | kernel_rfl | rfl, fun W hW => ?_⟩) HS.out ?_
              · have q0 := hW.1.cell 0
                have q1 := hW.1.cell 1
                have qz := hW.1.lt
                simp at q0 q1
                go_simp
              simp only [Act.put]
              have s12_ := S12.out.c6
              refine wpAnyE_step (i := 3) rfl (by kernel_rfl) (fun KQ HK => ?_)
              go_wp2
              refine HK _ _ (fun _ => HS.out) ?_
              clear HK
              clear s12_
              refine wpAnyE_step (i := 5) rfl (by kernel_rfl) (fun KQ HK => ?_)
              have KX := Lib.hid (KA4.out u3)
              go_wp2_with fail
              refine KX.out.mono ?_
              rintro e u4 ⟨rfl, bel⟩
              clear KX HS
              have bmv := bel
              have S11' := Lib.hid (S11.out.below bmv)
              have S12' := Lib.hid (S12.out.below bmv)
              have Q4' := Lib.hid (Q4.out.below bmv)
              have S17' := Lib.hid (S17.out.below bmv)
              have HC' := Lib.hid (HC.out.trans (bmv.mono HC.out.size))
              clear bmv S11 S12 Q4 S17 HC
              have S11 := Lib.hid S11'.out
              have S12 := Lib.hid S12'.out
              have Q4 := Lib.hid Q4'.out
              have S17 := Lib.hid S17'.out
              have HC := Lib.hid HC'.out
              clear S11' S12' Q4' S17' HC'
              clear bel
              have HS := Lib.hid (show (fun Wo => HasBlk Wo x17 109 #[.int .i64 (tlo (m 4) a1 b1), .int .i64 (thi (m 4) a1 b1)] ∧ HasBlk Wo x17 109 #[.int .i64 (tlo (m 4) a1 b1), .int .i64 (thi (m 4) a1 b1)]) u4 from ⟨S17.out, S17.out⟩)
              go_wp2
              refine HK _ _ (fun _ => HS.out) ?_
              clear HK
              refine wpAnyE_takeA (i := 6) (v := .tuple #[.agg #[.int .i64 (tlo (m 3) a0 b0 + tlo (m 4) a1 b1), .int .i64 (thi (m 3) a0 b0 + thi (m 4) a1 b1)], .int .i64 0]) rfl (by kernel_rfl) (fun _ _ _ h => h) (.inl ⟨by first | kernel_rfl | rfl, fun W hW => by go_simp⟩) HS.out ?_
              simp only [Act.put, List.setIfInBounds_toArray]
              refine wpAnyE_takeA (i := 7) (v := .agg #[.int .i64 (tlo (m 3) a0 b0 + tlo (m 4) a1 b1), .int .i64 (thi (m 3) a0 b0 + thi (m 4) a1 b1)]) rfl (by kernel_rfl) (fun _ _ _ h => h) (.inl ⟨by first | kernel_rfl | rfl, fun W hW => by go_simp⟩) HS.out ?_
              simp only [Act.put]
              refine wpAnyE_takeA (i := 8) (v := .int .i64 0) rfl (by kernel_rfl) (fun _ _ _ h => h) (.inl ⟨by first | kernel_rfl | rfl, fun W hW => by go_simp⟩) HS.out ?_
              simp only [Act.put]
              refine wpAnyE_takeA (i := 9) (v := .pointer (some ⟨(x11 + 1), 2, none⟩)) rfl (by kernel_rfl) (fun _ _ _ h => h) (.inl ⟨by first | kernel_rfl | rfl, fun W hW => by go_simp⟩) HS.out ?_
              simp only [Act.put]
              have s12_ := S12.out.f6
              have hs17 : (x11 + 1) < x17 := L17.out
              have hq4 : (w.heap.size + 1 + 1) < x11 := LX.out
              refine wpAnyE_step (i := 10) rfl (by kernel_rfl) (fun KQ HK => ?_)
              go_wp2
              have R12 := Lib.hid (show HasBlk ((u4.setCell ⟨(x11 + 1), 2, none⟩ (.int .i64 (tlo (m 3) a0 b0 + tlo (m 4) a1 b1))).setCell ⟨(x11 + 1), 3, none⟩ (.int .i64 (thi (m 3) a0 b0 + thi (m 4) a1 b1))) (x11 + 1) 110 #[.int .i64 ((tlo (m 0) a0 b0 + tlo (m 1) a1 b1 + tlo (m 2) a2 b2) / 256), .int .i64 ((thi (m 0) a0 b0 + thi (m 1) a1 b1 + thi (m 2) a2 b2) / 256), .int .i64 (tlo (m 3) a0 b0 + tlo (m 4) a1 b1), .int .i64 (thi (m 3) a0 b0 + thi (m 4) a1 b1), .int .i64 0, .int .i64 0] by simpa using (S12.out.set 2 (.int .i64 (tlo (m 3) a0 b0 + tlo (m 4) a1 b1))).set 3 (.int .i64 (thi (m 3) a0 b0 + thi (m 4) a1 b1)))
              have R11 := Lib.hid (show HasBlk ((u4.setCell ⟨(x11 + 1), 2, none⟩ (.int .i64 (tlo (m 3) a0 b0 + tlo (m 4) a1 b1))).setCell ⟨(x11 + 1), 3, none⟩ (.int .i64 (thi (m 3) a0 b0 + thi (m 4) a1 b1))) x11 110 #[.int .i64 a0, .int .i64 b0, .int .i64 a1, .int .i64 b1, .int .i64 a2, .int .i64 b2] from ((S11.out.far (p := ⟨(x11 + 1), 2, none⟩) (by first | omega | (simp; done) | (simp; omega)) (.int .i64 (tlo (m 3) a0 b0 + tlo (m 4) a1 b1))).far (p := ⟨(x11 + 1), 3, none⟩) (by first | omega | (simp; done) | (simp; omega)) (.int .i64 (thi (m 3) a0 b0 + thi (m 4) a1 b1))))
              have R4 := Lib.hid (show HasBlk ((u4.setCell ⟨(x11 + 1), 2, none⟩ (.int .i64 (tlo (m 3) a0 b0 + tlo (m 4) a1 b1))).setCell ⟨(x11 + 1), 3, none⟩ (.int .i64 (thi (m 3) a0 b0 + thi (m 4) a1 b1))) (w.heap.size + 1 + 1) 50 #[.int .i64 0, .int .i64 0, .int .i64 0, .int .i64 0, .int .i64 0, .int .i64 0] from ((Q4.out.far (p := ⟨(x11 + 1), 2, none⟩) (by first | omega | (simp; done) | (simp; omega)) (.int .i64 (tlo (m 3) a0 b0 + tlo (m 4) a1 b1))).far (p := ⟨(x11 + 1), 3, none⟩) (by first | omega | (simp; done) | (simp; omega)) (.int .i64 (thi (m 3) a0 b0 + thi (m 4) a1 b1))))
              have R17 := Lib.hid (show HasBlk ((u4.setCell ⟨(x11 + 1), 2, none⟩ (.int .i64 (tlo (m 3) a0 b0 + tlo (m 4) a1 b1))).setCell ⟨(x11 + 1), 3, none⟩ (.int .i64 (thi (m 3) a0 b0 + thi (m 4) a1 b1))) x17 109 #[.int .i64 (tlo (m 4) a1 b1), .int .i64 (thi (m 4) a1 b1)] from ((S17.out.far (p := ⟨(x11 + 1), 2, none⟩) (by first | omega | (simp; done) | (simp; omega)) (.int .i64 (tlo (m 3) a0 b0 + tlo (m 4) a1 b1))).far (p := ⟨(x11 + 1), 3, none⟩) (by first | omega | (simp; done) | (simp; omega)) (.int .i64 (thi (m 3) a0 b0 + thi (m 4) a1 b1))))
              have HD := Lib.hid (show Below w.heap.size w ((u4.setCell ⟨(x11 + 1), 2, none⟩ (.int .i64 (tlo (m 3) a0 b0 + tlo (m 4) a1 b1))).setCell ⟨(x11 + 1), 3, none⟩ (.int .i64 (thi (m 3) a0 b0 + thi (m 4) a1 b1))) from Below.setCell (Below.setCell HC.out (by first | omega | (simp; done) | (simp; omega)) _) (by first | omega | (simp; done) | (simp; omega)) _)
              have HS2 := Lib.hid (show (fun Wo => HasBlk Wo x17 109 #[.int .i64 (tlo (m 4) a1 b1), .int .i64 (thi (m 4) a1 b1)] ∧ HasBlk Wo x17 109 #[.int .i64 (tlo (m 4) a1 b1), .int .i64 (thi (m 4) a1 b1)]) ((u4.setCell ⟨(x11 + 1), 2, none⟩ (.int .i64 (tlo (m 3) a0 b0 + tlo (m 4) a1 b1))).setCell ⟨(x11 + 1), 3, none⟩ (.int .i64 (thi (m 3) a0 b0 + thi (m 4) a1 b1))) from ⟨R17.out, R17.out⟩)
              clear s12_
              clear S12 S11 Q4 S17 HC HS hs17
              refine HK _ _ (fun _ => HS2.out) ?_
              clear HK
              generalize ((u4.setCell ⟨(x11 + 1), 2, none⟩ (.int .i64 (tlo (m 3) a0 b0 + tlo (m 4) a1 b1))).setCell ⟨(x11 + 1), 3, none⟩ (.int .i64 (thi (m 3) a0 b0 + thi (m 4) a1 b1))) = u5 at *
              refine wpAnyE_takeA (i := 11) (v := .int .i64 0) rfl (by kernel_rfl) (fun _ _ _ h => h) (.inl ⟨by first | kernel_rfl | rfl, fun W hW => by go_simp⟩) HS2.out ?_
              simp only [Act.put, List.setIfInBounds_toArray]
              refine wpAnyE_done (by kernel_rfl) ?_
              go_wp2
              go_roundw
              case rel => exact Lib.hid (.inr (.inr ((.inl ⟨by go_num, R12.out, R11.out, R4.out, HD.out⟩))))
              case measure => simp [intOf]
            · have hx3 := ix_num2
              have S12 := Lib.hid h1
              have S11 := Lib.hid h2
              have Q4 := Lib.hid h3
              have HC := Lib.hid h4
              clear h1 h2 h3 h4
              have s11_ := S11.out.c6
              go_wp2_with fail
              refine (KS5.out _).mono ?_
              rintro e u1 ⟨rfl, bel⟩
              clear s11_
              have bmv := bel
              have S11' := Lib.hid (S11.out.below bmv)
              have S12' := Lib.hid (S12.out.below bmv)
              have Q4' := Lib.hid (Q4.out.below bmv)
              have HC' := Lib.hid (HC.out.trans (bmv.mono HC.out.size))
              clear bmv S11 S12 Q4 HC
              have S11 := Lib.hid S11'.out
              have S12 := Lib.hid S12'.out
              have Q4 := Lib.hid Q4'.out
              have HC := Lib.hid HC'.out
              clear S11' S12' Q4' HC'
              clear bel hx3
              go_upto_region 25 with fail
              have S17 := Lib.hid (hasBlk_new u1 109 #[.int .i64 (tlo (m 5) a2 b2), .int .i64 (thi (m 5) a2 b2)])
              have hl17 := S12.out.lt
              have bA := (Below.refl u1.heap.size u1).alloc (Nat.le_refl _) (.cells #[.int .i64 (tlo (m 5) a2 b2), .int .i64 (thi (m 5) a2 b2)] 109)
              have bmv := bA
              have S11' := Lib.hid (S11.out.below bmv)
              have S12' := Lib.hid (S12.out.below bmv)
              have Q4' := Lib.hid (Q4.out.below bmv)
              have HC' := Lib.hid (HC.out.trans (bmv.mono HC.out.size))
              clear bmv S11 S12 Q4 HC
              have S11 := Lib.hid S11'.out
              have S12 := Lib.hid S12'.out
              have Q4 := Lib.hid Q4'.out
              have HC := Lib.hid HC'.out
              clear S11' S12' Q4' HC'
              clear bA
              obtain ⟨x17, hx17⟩ : ∃ x17, x17 = u1.heap.size := ⟨_, rfl⟩
              rw [← hx17] at S17 hl17 ⊢
              have L17 := Lib.hid hl17
              clear hx17 hl17
              generalize u1.alloc (.cells #[.int .i64 (tlo (m 5) a2 b2), .int .i64 (thi (m 5) a2 b2)] 109) = u2 at *
              have bd := (Below.refl u2.heap.size u2).drew
              have bmv := bd
              have S11' := Lib.hid (S11.out.below bmv)
              have S12' := Lib.hid (S12.out.below bmv)
              have Q4' := Lib.hid (Q4.out.below bmv)
              have S17' := Lib.hid (S17.out.below bmv)
              have HC' := Lib.hid (HC.out.trans (bmv.mono HC.out.size))
              clear bmv S11 S12 Q4 S17 HC
              have S11 := Lib.hid S11'.out
              have S12 := Lib.hid S12'.out
              have Q4 := Lib.hid Q4'.out
              have S17 := Lib.hid S17'.out
              have HC := Lib.hid HC'.out
              clear S11' S12' Q4' S17' HC'
              clear bd
              have HS := Lib.hid (show (fun Wo => HasBlk Wo x17 109 #[.int .i64 (tlo (m 5) a2 b2), .int .i64 (thi (m 5) a2 b2)] ∧ HasBlk Wo x17 109 #[.int .i64 (tlo (m 5) a2 b2), .int .i64 (thi (m 5) a2 b2)]) u2.drew from ⟨S17.out, S17.out⟩)
              refine wp_region_E (fun Wo => HasBlk Wo x17 109 #[.int .i64 (tlo (m 5) a2 b2), .int .i64 (thi (m 5) a2 b2)] ∧ HasBlk Wo x17 109 #[.int .i64 (tlo (m 5) a2 b2), .int .i64 (thi (m 5) a2 b2)]) 99 (by kernel_rfl) ?_
              generalize u2.drew = u3 at *
              refine wpAnyE_takeA (i := 0) (v := .int .i64 1) rfl (by kernel_rfl) (fun _ _ _ h => h) (.inl ⟨by first | kernel_rfl | rfl, fun W hW => by go_simp⟩) HS.out ?_
              simp only [Act.put, List.setIfInBounds_toArray]
              refine wpAnyE_takeA (i := 1) (v := .int .i64 1) rfl (by kernel_rfl) (fun _ _ _ h => h) (.inl ⟨by first | kernel_rfl | rfl, fun W hW => by go_simp⟩) HS.out ?_
              simp only [Act.put]
              refine wpAnyE_takeA (i := 2) (v := .pointer (some ⟨(x11 + 1), 2, none⟩)) rfl (by kernel_rfl) (fun _ _ _ h => h) (.inl ⟨by first | kernel_rfl | rfl, fun W hW => by go_simp⟩) HS.out ?_
              simp only [Act.put]
              refine wpAnyE_takeA (i := 4) (v := .agg #[.int .i64 (tlo (m 5) a2 b2), .int .i64 (thi (m 5) a2 b2)]) rfl (by kernel_rfl) (fun _ _ _ h => h) (.inl ⟨by first | kernel_rfl | rfl, fun W hW => ?_⟩) HS.out ?_
              · have q0 := hW.1.cell 0
                have q1 := hW.1.cell 1
                have qz := hW.1.lt
                simp at q0 q1
                go_simp
              simp only [Act.put]
              have s12_ := S12.out.c6
              refine wpAnyE_step (i := 3) rfl (by kernel_rfl) (fun KQ HK => ?_)
              go_wp2
              refine HK _ _ (fun _ => HS.out) ?_
              clear HK
              clear s12_
              refine wpAnyE_step (i := 5) rfl (by kernel_rfl) (fun KQ HK => ?_)
              have KX := Lib.hid (KA5.out u3)
              go_wp2_with fail
              refine KX.out.mono ?_
              rintro e u4 ⟨rfl, bel⟩
              clear KX HS
              have bmv := bel
              have S11' := Lib.hid (S11.out.below bmv)
              have S12' := Lib.hid (S12.out.below bmv)
              have Q4' := Lib.hid (Q4.out.below bmv)
              have S17' := Lib.hid (S17.out.below bmv)
              have HC' := Lib.hid (HC.out.trans (bmv.mono HC.out.size))
              clear bmv S11 S12 Q4 S17 HC
              have S11 := Lib.hid S11'.out
              have S12 := Lib.hid S12'.out
              have Q4 := Lib.hid Q4'.out
              have S17 := Lib.hid S17'.out
              have HC := Lib.hid HC'.out
              clear S11' S12' Q4' S17' HC'
              clear bel
              have HS := Lib.hid (show (fun Wo => HasBlk Wo x17 109 #[.int .i64 (tlo (m 5) a2 b2), .int .i64 (thi (m 5) a2 b2)] ∧ HasBlk Wo x17 109 #[.int .i64 (tlo (m 5) a2 b2), .int .i64 (thi (m 5) a2 b2)]) u4 from ⟨S17.out, S17.out⟩)
              go_wp2
              refine HK _ _ (fun _ => HS.out) ?_
              clear HK
              refine wpAnyE_takeA (i := 6) (v := .tuple #[.agg #[.int .i64 (tlo (m 3) a0 b0 + tlo (m 4) a1 b1 + tlo (m 5) a2 b2), .int .i64 (thi (m 3) a0 b0 + thi (m 4) a1 b1 + thi (m 5) a2 b2)], .int .i64 0]) rfl (by kernel_rfl) (fun _ _ _ h => h) (.inl ⟨by first | kernel_rfl | rfl, fun W hW => by go_simp⟩) HS.out ?_
              simp only [Act.put, List.setIfInBounds_toArray]
              refine wpAnyE_takeA (i := 7) (v := .agg #[.int .i64 (tlo (m 3) a0 b0 + tlo (m 4) a1 b1 + tlo (m 5) a2 b2), .int .i64 (thi (m 3) a0 b0 + thi (m 4) a1 b1 + thi (m 5) a2 b2)]) rfl (by kernel_rfl) (fun _ _ _ h => h) (.inl ⟨by first | kernel_rfl | rfl, fun W hW => by go_simp⟩) HS.out ?_
              simp only [Act.put]
              refine wpAnyE_takeA (i := 8) (v := .int .i64 0) rfl (by kernel_rfl) (fun _ _ _ h => h) (.inl ⟨by first | kernel_rfl | rfl, fun W hW => by go_simp⟩) HS.out ?_
              simp only [Act.put]
              refine wpAnyE_takeA (i := 9) (v := .pointer (some ⟨(x11 + 1), 2, none⟩)) rfl (by kernel_rfl) (fun _ _ _ h => h) (.inl ⟨by first | kernel_rfl | rfl, fun W hW => by go_simp⟩) HS.out ?_
              simp only [Act.put]
              have s12_ := S12.out.f6
              have hs17 : (x11 + 1) < x17 := L17.out
              have hq4 : (w.heap.size + 1 + 1) < x11 := LX.out
              refine wpAnyE_step (i := 10) rfl (by kernel_rfl) (fun KQ HK => ?_)
              go_wp2
              have R12 := Lib.hid (show HasBlk ((u4.setCell ⟨(x11 + 1), 2, none⟩ (.int .i64 (tlo (m 3) a0 b0 + tlo (m 4) a1 b1 + tlo (m 5) a2 b2))).setCell ⟨(x11 + 1), 3, none⟩ (.int .i64 (thi (m 3) a0 b0 + thi (m 4) a1 b1 + thi (m 5) a2 b2))) (x11 + 1) 110 #[.int .i64 ((tlo (m 0) a0 b0 + tlo (m 1) a1 b1 + tlo (m 2) a2 b2) / 256), .int .i64 ((thi (m 0) a0 b0 + thi (m 1) a1 b1 + thi (m 2) a2 b2) / 256), .int .i64 (tlo (m 3) a0 b0 + tlo (m 4) a1 b1 + tlo (m 5) a2 b2), .int .i64 (thi (m 3) a0 b0 + thi (m 4) a1 b1 + thi (m 5) a2 b2), .int .i64 0, .int .i64 0] by simpa using (S12.out.set 2 (.int .i64 (tlo (m 3) a0 b0 + tlo (m 4) a1 b1 + tlo (m 5) a2 b2))).set 3 (.int .i64 (thi (m 3) a0 b0 + thi (m 4) a1 b1 + thi (m 5) a2 b2)))
              have R11 := Lib.hid (show HasBlk ((u4.setCell ⟨(x11 + 1), 2, none⟩ (.int .i64 (tlo (m 3) a0 b0 + tlo (m 4) a1 b1 + tlo (m 5) a2 b2))).setCell ⟨(x11 + 1), 3, none⟩ (.int .i64 (thi (m 3) a0 b0 + thi (m 4) a1 b1 + thi (m 5) a2 b2))) x11 110 #[.int .i64 a0, .int .i64 b0, .int .i64 a1, .int .i64 b1, .int .i64 a2, .int .i64 b2] from ((S11.out.far (p := ⟨(x11 + 1), 2, none⟩) (by first | omega | (simp; done) | (simp; omega)) (.int .i64 (tlo (m 3) a0 b0 + tlo (m 4) a1 b1 + tlo (m 5) a2 b2))).far (p := ⟨(x11 + 1), 3, none⟩) (by first | omega | (simp; done) | (simp; omega)) (.int .i64 (thi (m 3) a0 b0 + thi (m 4) a1 b1 + thi (m 5) a2 b2))))
              have R4 := Lib.hid (show HasBlk ((u4.setCell ⟨(x11 + 1), 2, none⟩ (.int .i64 (tlo (m 3) a0 b0 + tlo (m 4) a1 b1 + tlo (m 5) a2 b2))).setCell ⟨(x11 + 1), 3, none⟩ (.int .i64 (thi (m 3) a0 b0 + thi (m 4) a1 b1 + thi (m 5) a2 b2))) (w.heap.size + 1 + 1) 50 #[.int .i64 0, .int .i64 0, .int .i64 0, .int .i64 0, .int .i64 0, .int .i64 0] from ((Q4.out.far (p := ⟨(x11 + 1), 2, none⟩) (by first | omega | (simp; done) | (simp; omega)) (.int .i64 (tlo (m 3) a0 b0 + tlo (m 4) a1 b1 + tlo (m 5) a2 b2))).far (p := ⟨(x11 + 1), 3, none⟩) (by first | omega | (simp; done) | (simp; omega)) (.int .i64 (thi (m 3) a0 b0 + thi (m 4) a1 b1 + thi (m 5) a2 b2))))
              have R17 := Lib.hid (show HasBlk ((u4.setCell ⟨(x11 + 1), 2, none⟩ (.int .i64 (tlo (m 3) a0 b0 + tlo (m 4) a1 b1 + tlo (m 5) a2 b2))).setCell ⟨(x11 + 1), 3, none⟩ (.int .i64 (thi (m 3) a0 b0 + thi (m 4) a1 b1 + thi (m 5) a2 b2))) x17 109 #[.int .i64 (tlo (m 5) a2 b2), .int .i64 (thi (m 5) a2 b2)] from ((S17.out.far (p := ⟨(x11 + 1), 2, none⟩) (by first | omega | (simp; done) | (simp; omega)) (.int .i64 (tlo (m 3) a0 b0 + tlo (m 4) a1 b1 + tlo (m 5) a2 b2))).far (p := ⟨(x11 + 1), 3, none⟩) (by first | omega | (simp; done) | (simp; omega)) (.int .i64 (thi (m 3) a0 b0 + thi (m 4) a1 b1 + thi (m 5) a2 b2))))
              have HD := Lib.hid (show Below w.heap.size w ((u4.setCell ⟨(x11 + 1), 2, none⟩ (.int .i64 (tlo (m 3) a0 b0 + tlo (m 4) a1 b1 + tlo (m 5) a2 b2))).setCell ⟨(x11 + 1), 3, none⟩ (.int .i64 (thi (m 3) a0 b0 + thi (m 4) a1 b1 + thi (m 5) a2 b2))) from Below.setCell (Below.setCell HC.out (by first | omega | (simp; done) | (simp; omega)) _) (by first | omega | (simp; done) | (simp; omega)) _)
              have HS2 := Lib.hid (show (fun Wo => HasBlk Wo x17 109 #[.int .i64 (tlo (m 5) a2 b2), .int .i64 (thi (m 5) a2 b2)] ∧ HasBlk Wo x17 109 #[.int .i64 (tlo (m 5) a2 b2), .int .i64 (thi (m 5) a2 b2)]) ((u4.setCell ⟨(x11 + 1), 2, none⟩ (.int .i64 (tlo (m 3) a0 b0 + tlo (m 4) a1 b1 + tlo (m 5) a2 b2))).setCell ⟨(x11 + 1), 3, none⟩ (.int .i64 (thi (m 3) a0 b0 + thi (m 4) a1 b1 + thi (m 5) a2 b2))) from ⟨R17.out, R17.out⟩)
              clear s12_
              clear S12 S11 Q4 S17 HC HS hs17
              refine HK _ _ (fun _ => HS2.out) ?_
              clear HK
              generalize ((u4.setCell ⟨(x11 + 1), 2, none⟩ (.int .i64 (tlo (m 3) a0 b0 + tlo (m 4) a1 b1 + tlo (m 5) a2 b2))).setCell ⟨(x11 + 1), 3, none⟩ (.int .i64 (thi (m 3) a0 b0 + thi (m 4) a1 b1 + thi (m 5) a2 b2))) = u5 at *
              refine wpAnyE_takeA (i := 11) (v := .int .i64 0) rfl (by kernel_rfl) (fun _ _ _ h => h) (.inl ⟨by first | kernel_rfl | rfl, fun W hW => by go_simp⟩) HS2.out ?_
              simp only [Act.put, List.setIfInBounds_toArray]
              refine wpAnyE_done (by kernel_rfl) ?_
              go_wp2
              go_roundw
              case rel => exact Lib.hid (.inr (.inr (.inr (⟨by go_num, R12.out, R11.out, R4.out, HD.out⟩))))
              case measure => simp [intOf]
            · have S12 := Lib.hid h1
              have S11 := Lib.hid h2
              have Q4 := Lib.hid h3
              have HC := Lib.hid h4
              have hq4 : (w.heap.size + 1 + 1) < x11 := LX.out
              clear h1 h2 h3 h4
              have s12_ := S12.out.c6
              go_wp2_with fail
              refine (KD1.out _).mono ?_
              rintro e u1 ⟨rfl, bel⟩
              clear s12_
              have bmv := bel
              have S11' := Lib.hid (S11.out.below bmv)
              have S12' := Lib.hid (S12.out.below bmv)
              have Q4' := Lib.hid (Q4.out.below bmv)
              have HC' := Lib.hid (HC.out.trans (bmv.mono HC.out.size))
              clear bmv S11 S12 Q4 HC
              have S11 := Lib.hid S11'.out
              have S12 := Lib.hid S12'.out
              have Q4 := Lib.hid Q4'.out
              have HC := Lib.hid HC'.out
              clear S11' S12' Q4' HC'
              clear bel
              have s12_ := S12.out.f6
              go_upto_region 31 with fail
              have R12 := Lib.hid (show HasBlk ((u1.setCell ⟨(x11 + 1), 2, none⟩ (.int .i64 ((tlo (m 3) a0 b0 + tlo (m 4) a1 b1 + tlo (m 5) a2 b2) / 256))).setCell ⟨(x11 + 1), 3, none⟩ (.int .i64 ((thi (m 3) a0 b0 + thi (m 4) a1 b1 + thi (m 5) a2 b2) / 256))) (x11 + 1) 110 #[.int .i64 ((tlo (m 0) a0 b0 + tlo (m 1) a1 b1 + tlo (m 2) a2 b2) / 256), .int .i64 ((thi (m 0) a0 b0 + thi (m 1) a1 b1 + thi (m 2) a2 b2) / 256), .int .i64 ((tlo (m 3) a0 b0 + tlo (m 4) a1 b1 + tlo (m 5) a2 b2) / 256), .int .i64 ((thi (m 3) a0 b0 + thi (m 4) a1 b1 + thi (m 5) a2 b2) / 256), .int .i64 (0), .int .i64 (0)] by simpa using (S12.out.set 2 (.int .i64 ((tlo (m 3) a0 b0 + tlo (m 4) a1 b1 + tlo (m 5) a2 b2) / 256))).set 3 (.int .i64 ((thi (m 3) a0 b0 + thi (m 4) a1 b1 + thi (m 5) a2 b2) / 256)))
              have R11 := Lib.hid (show HasBlk ((u1.setCell ⟨(x11 + 1), 2, none⟩ (.int .i64 ((tlo (m 3) a0 b0 + tlo (m 4) a1 b1 + tlo (m 5) a2 b2) / 256))).setCell ⟨(x11 + 1), 3, none⟩ (.int .i64 ((thi (m 3) a0 b0 + thi (m 4) a1 b1 + thi (m 5) a2 b2) / 256))) x11 110 #[.int .i64 a0, .int .i64 b0, .int .i64 a1, .int .i64 b1, .int .i64 a2, .int .i64 b2] from ((S11.out.far (p := ⟨(x11 + 1), 2, none⟩) (by first | omega | (simp; done) | (simp; omega)) (.int .i64 ((tlo (m 3) a0 b0 + tlo (m 4) a1 b1 + tlo (m 5) a2 b2) / 256))).far (p := ⟨(x11 + 1), 3, none⟩) (by first | omega | (simp; done) | (simp; omega)) (.int .i64 ((thi (m 3) a0 b0 + thi (m 4) a1 b1 + thi (m 5) a2 b2) / 256))))
              have R4 := Lib.hid (show HasBlk ((u1.setCell ⟨(x11 + 1), 2, none⟩ (.int .i64 ((tlo (m 3) a0 b0 + tlo (m 4) a1 b1 + tlo (m 5) a2 b2) / 256))).setCell ⟨(x11 + 1), 3, none⟩ (.int .i64 ((thi (m 3) a0 b0 + thi (m 4) a1 b1 + thi (m 5) a2 b2) / 256))) (w.heap.size + 1 + 1) 50 #[.int .i64 0, .int .i64 0, .int .i64 0, .int .i64 0, .int .i64 0, .int .i64 0] from ((Q4.out.far (p := ⟨(x11 + 1), 2, none⟩) (by first | omega | (simp; done) | (simp; omega)) (.int .i64 ((tlo (m 3) a0 b0 + tlo (m 4) a1 b1 + tlo (m 5) a2 b2) / 256))).far (p := ⟨(x11 + 1), 3, none⟩) (by first | omega | (simp; done) | (simp; omega)) (.int .i64 ((thi (m 3) a0 b0 + thi (m 4) a1 b1 + thi (m 5) a2 b2) / 256))))
              have HD := Lib.hid (show Below w.heap.size w ((u1.setCell ⟨(x11 + 1), 2, none⟩ (.int .i64 ((tlo (m 3) a0 b0 + tlo (m 4) a1 b1 + tlo (m 5) a2 b2) / 256))).setCell ⟨(x11 + 1), 3, none⟩ (.int .i64 ((thi (m 3) a0 b0 + thi (m 4) a1 b1 + thi (m 5) a2 b2) / 256))) from Below.setCell (Below.setCell HC.out (by first | omega | (simp; done) | (simp; omega)) _) (by first | omega | (simp; done) | (simp; omega)) _)
              clear s12_
              clear S12 S11 Q4 HC
              generalize ((u1.setCell ⟨(x11 + 1), 2, none⟩ (.int .i64 ((tlo (m 3) a0 b0 + tlo (m 4) a1 b1 + tlo (m 5) a2 b2) / 256))).setCell ⟨(x11 + 1), 3, none⟩ (.int .i64 ((thi (m 3) a0 b0 + thi (m 4) a1 b1 + thi (m 5) a2 b2) / 256))) = u5 at *
              go_wp2
              go_roundw
              case rel => exact Lib.hid (.inr (.inr ((.inl ⟨by go_num, R12.out, R11.out, R4.out, HD.out⟩))))
              case measure => simp [intOf]
        · have hx1 := ixm_row2 m
          have S12 := Lib.hid h1
          have S11 := Lib.hid h2
          have Q4 := Lib.hid h3
          have HC := Lib.hid h4
          clear h1 h2 h3 h4
          go_upto_region 19 with fail
          have S14 := Lib.hid (hasBlk_new wr 28 #[.int .i64 (m 6), .int .i64 (m 7), .int .i64 (m 8)])
          have bA := (Below.refl wr.heap.size wr).alloc (Nat.le_refl _) (.cells #[.int .i64 (m 6), .int .i64 (m 7), .int .i64 (m 8)] 28)
          have bmv := bA
          have S11' := Lib.hid (S11.out.below bmv)
          have S12' := Lib.hid (S12.out.below bmv)
          have Q4' := Lib.hid (Q4.out.below bmv)
          have HC' := Lib.hid (HC.out.trans (bmv.mono HC.out.size))
          clear bmv S11 S12 Q4 HC
          have S11 := Lib.hid S11'.out
          have S12 := Lib.hid S12'.out
          have Q4 := Lib.hid Q4'.out
          have HC := Lib.hid HC'.out
          clear S11' S12' Q4' HC'
          clear bA hx1
          obtain ⟨x14, hx14⟩ : ∃ x14, x14 = wr.heap.size := ⟨_, rfl⟩
          rw [← hx14] at S14 ⊢
          clear hx14
          generalize wr.alloc (.cells #[.int .i64 (m 6), .int .i64 (m 7), .int .i64 (m 8)] 28) = u0 at *
          have s14_ := S14.out.c3
          go_wp2
          clear s14_
          clear S14
          go_loopw [52] (fun s52 wr => RowKit.Hid ((s52 = .int .i64 (0 : Nat) ∧ HasBlk wr (x11 + 1) 110 #[.int .i64 ((tlo (m 0) a0 b0 + tlo (m 1) a1 b1 + tlo (m 2) a2 b2) / 256), .int .i64 ((thi (m 0) a0 b0 + thi (m 1) a1 b1 + thi (m 2) a2 b2) / 256), .int .i64 ((tlo (m 3) a0 b0 + tlo (m 4) a1 b1 + tlo (m 5) a2 b2) / 256), .int .i64 ((thi (m 3) a0 b0 + thi (m 4) a1 b1 + thi (m 5) a2 b2) / 256), .int .i64 (0), .int .i64 (0)] ∧ HasBlk wr x11 110 #[.int .i64 a0, .int .i64 b0, .int .i64 a1, .int .i64 b1, .int .i64 a2, .int .i64 b2] ∧ HasBlk wr (w.heap.size + 1 + 1) 50 #[.int .i64 0, .int .i64 0, .int .i64 0, .int .i64 0, .int .i64 0, .int .i64 0] ∧ Below w.heap.size w wr) ∨ ((s52 = .int .i64 (1 : Nat) ∧ HasBlk wr (x11 + 1) 110 #[.int .i64 ((tlo (m 0) a0 b0 + tlo (m 1) a1 b1 + tlo (m 2) a2 b2) / 256), .int .i64 ((thi (m 0) a0 b0 + thi (m 1) a1 b1 + thi (m 2) a2 b2) / 256), .int .i64 ((tlo (m 3) a0 b0 + tlo (m 4) a1 b1 + tlo (m 5) a2 b2) / 256), .int .i64 ((thi (m 3) a0 b0 + thi (m 4) a1 b1 + thi (m 5) a2 b2) / 256), .int .i64 (tlo (m 6) a0 b0), .int .i64 (thi (m 6) a0 b0)] ∧ HasBlk wr x11 110 #[.int .i64 a0, .int .i64 b0, .int .i64 a1, .int .i64 b1, .int .i64 a2, .int .i64 b2] ∧ HasBlk wr (w.heap.size + 1 + 1) 50 #[.int .i64 0, .int .i64 0, .int .i64 0, .int .i64 0, .int .i64 0, .int .i64 0] ∧ Below w.heap.size w wr) ∨ ((s52 = .int .i64 (2 : Nat) ∧ HasBlk wr (x11 + 1) 110 #[.int .i64 ((tlo (m 0) a0 b0 + tlo (m 1) a1 b1 + tlo (m 2) a2 b2) / 256), .int .i64 ((thi (m 0) a0 b0 + thi (m 1) a1 b1 + thi (m 2) a2 b2) / 256), .int .i64 ((tlo (m 3) a0 b0 + tlo (m 4) a1 b1 + tlo (m 5) a2 b2) / 256), .int .i64 ((thi (m 3) a0 b0 + thi (m 4) a1 b1 + thi (m 5) a2 b2) / 256), .int .i64 (tlo (m 6) a0 b0 + tlo (m 7) a1 b1), .int .i64 (thi (m 6) a0 b0 + thi (m 7) a1 b1)] ∧ HasBlk wr x11 110 #[.int .i64 a0, .int .i64 b0, .int .i64 a1, .int .i64 b1, .int .i64 a2, .int .i64 b2] ∧ HasBlk wr (w.heap.size + 1 + 1) 50 #[.int .i64 0, .int .i64 0, .int .i64 0, .int .i64 0, .int .i64 0, .int .i64 0] ∧ Below w.heap.size w wr) ∨ ((s52 = .int .i64 (3 : Nat) ∧ HasBlk wr (x11 + 1) 110 #[.int .i64 ((tlo (m 0) a0 b0 + tlo (m 1) a1 b1 + tlo (m 2) a2 b2) / 256), .int .i64 ((thi (m 0) a0 b0 + thi (m 1) a1 b1 + thi (m 2) a2 b2) / 256), .int .i64 ((tlo (m 3) a0 b0 + tlo (m 4) a1 b1 + tlo (m 5) a2 b2) / 256), .int .i64 ((thi (m 3) a0 b0 + thi (m 4) a1 b1 + thi (m 5) a2 b2) / 256), .int .i64 (tlo (m 6) a0 b0 + tlo (m 7) a1 b1 + tlo (m 8) a2 b2), .int .i64 (thi (m 6) a0 b0 + thi (m 7) a1 b1 + thi (m 8) a2 b2)] ∧ HasBlk wr x11 110 #[.int .i64 a0, .int .i64 b0, .int .i64 a1, .int .i64 b1, .int .i64 a2, .int .i64 b2] ∧ HasBlk wr (w.heap.size + 1 + 1) 50 #[.int .i64 0, .int .i64 0, .int .i64 0, .int .i64 0, .int .i64 0, .int .i64 0] ∧ Below w.heap.size w wr)))))) (fun s52 wr => 3 - (intOf s52).toNat)
          case atStart => exact Lib.hid (.inl ⟨rfl, S12.out, S11.out, Q4.out, HC.out⟩)
          case round =>
            clear S12 S11 Q4 HC
            rcases hrel.out with ⟨rfl, h1, h2, h3, h4⟩ | ⟨rfl, h1, h2, h3, h4⟩ | ⟨rfl, h1, h2, h3, h4⟩ | ⟨rfl, h1, h2, h3, h4⟩
            · have hx3 := ix_num0
              have S12 := Lib.hid h1
              have S11 := Lib.hid h2
              have Q4 := Lib.hid h3
              have HC := Lib.hid h4
              clear h1 h2 h3 h4
              have s11_ := S11.out.c6
              go_wp2_with fail
              refine (KS6.out _).mono ?_
              rintro e u1 ⟨rfl, bel⟩
              clear s11_
              have bmv := bel
              have S11' := Lib.hid (S11.out.below bmv)
              have S12' := Lib.hid (S12.out.below bmv)
              have Q4' := Lib.hid (Q4.out.below bmv)
              have HC' := Lib.hid (HC.out.trans (bmv.mono HC.out.size))
              clear bmv S11 S12 Q4 HC
              have S11 := Lib.hid S11'.out
              have S12 := Lib.hid S12'.out
              have Q4 := Lib.hid Q4'.out
              have HC := Lib.hid HC'.out
              clear S11' S12' Q4' HC'
              clear bel hx3
              go_upto_region 25 with fail
              have S17 := Lib.hid (hasBlk_new u1 109 #[.int .i64 (tlo (m 6) a0 b0), .int .i64 (thi (m 6) a0 b0)])
              have hl17 := S12.out.lt
              have bA := (Below.refl u1.heap.size u1).alloc (Nat.le_refl _) (.cells #[.int .i64 (tlo (m 6) a0 b0), .int .i64 (thi (m 6) a0 b0)] 109)
              have bmv := bA
              have S11' := Lib.hid (S11.out.below bmv)
              have S12' := Lib.hid (S12.out.below bmv)
              have Q4' := Lib.hid (Q4.out.below bmv)
              have HC' := Lib.hid (HC.out.trans (bmv.mono HC.out.size))
              clear bmv S11 S12 Q4 HC
              have S11 := Lib.hid S11'.out
              have S12 := Lib.hid S12'.out
              have Q4 := Lib.hid Q4'.out
              have HC := Lib.hid HC'.out
              clear S11' S12' Q4' HC'
              clear bA
              obtain ⟨x17, hx17⟩ : ∃ x17, x17 = u1.heap.size := ⟨_, rfl⟩
              rw [← hx17] at S17 hl17 ⊢
              have L17 := Lib.hid hl17
              clear hx17 hl17
              generalize u1.alloc (.cells #[.int .i64 (tlo (m 6) a0 b0), .int .i64 (thi (m 6) a0 b0)] 109) = u2 at *
              have bd := (Below.refl u2.heap.size u2).drew
              have bmv := bd
              have S11' := Lib.hid (S11.out.below bmv)
              have S12' := Lib.hid (S12.out.below bmv)
              have Q4' := Lib.hid (Q4.out.below bmv)
              have S17' := Lib.hid (S17.out.below bmv)
              have HC' := Lib.hid (HC.out.trans (bmv.mono HC.out.size))
              clear bmv S11 S12 Q4 S17 HC
              have S11 := Lib.hid S11'.out
              have S12 := Lib.hid S12'.out
              have Q4 := Lib.hid Q4'.out
              have S17 := Lib.hid S17'.out
              have HC := Lib.hid HC'.out
              clear S11' S12' Q4' S17' HC'
              clear bd
              have HS := Lib.hid (show (fun Wo => HasBlk Wo x17 109 #[.int .i64 (tlo (m 6) a0 b0), .int .i64 (thi (m 6) a0 b0)] ∧ HasBlk Wo x17 109 #[.int .i64 (tlo (m 6) a0 b0), .int .i64 (thi (m 6) a0 b0)]) u2.drew from ⟨S17.out, S17.out⟩)
              refine wp_region_E (fun Wo => HasBlk Wo x17 109 #[.int .i64 (tlo (m 6) a0 b0), .int .i64 (thi (m 6) a0 b0)] ∧ HasBlk Wo x17 109 #[.int .i64 (tlo (m 6) a0 b0), .int .i64 (thi (m 6) a0 b0)]) 99 (by kernel_rfl) ?_
              generalize u2.drew = u3 at *
              refine wpAnyE_takeA (i := 0) (v := .int .i64 2) rfl (by kernel_rfl) (fun _ _ _ h => h) (.inl ⟨by first | kernel_rfl | rfl, fun W hW => by go_simp⟩) HS.out ?_
              simp only [Act.put, List.setIfInBounds_toArray]
              refine wpAnyE_takeA (i := 1) (v := .int .i64 2) rfl (by kernel_rfl) (fun _ _ _ h => h) (.inl ⟨by first | kernel_rfl | rfl, fun W hW => by go_simp⟩) HS.out ?_
              simp only [Act.put]
              refine wpAnyE_takeA (i := 2) (v := .pointer (some ⟨(x11 + 1), 4, none⟩)) rfl (by kernel_rfl) (fun _ _ _ h => h) (.inl ⟨by first | kernel_rfl | rfl, fun W hW => by go_simp⟩) HS.out ?_
              simp only [Act.put]
              refine wpAnyE_takeA (i := 4) (v := .agg #[.int .i64 (tlo (m 6) a0 b0), .int .i64 (thi (m 6) a0 b0)]) rfl (by kernel_rfl) (fun _ _ _ h => h) (.inl ⟨by first | kernel_rfl | rfl, fun W hW => ?_⟩) HS.out ?_
              · have q0 := hW.1.cell 0
                have q1 := hW.1.cell 1
                have qz := hW.1.lt
                simp at q0 q1
                go_simp
              simp only [Act.put]
              have s12_ := S12.out.c6
              refine wpAnyE_step (i := 3) rfl (by kernel_rfl) (fun KQ HK => ?_)
              go_wp2
              refine HK _ _ (fun _ => HS.out) ?_
              clear HK
              clear s12_
              refine wpAnyE_step (i := 5) rfl (by kernel_rfl) (fun KQ HK => ?_)
              have KX := Lib.hid (KA6.out u3)
              go_wp2_with fail
              refine KX.out.mono ?_
              rintro e u4 ⟨rfl, bel⟩
              clear KX HS
              have bmv := bel
              have S11' := Lib.hid (S11.out.below bmv)
              have S12' := Lib.hid (S12.out.below bmv)
              have Q4' := Lib.hid (Q4.out.below bmv)
              have S17' := Lib.hid (S17.out.below bmv)
              have HC' := Lib.hid (HC.out.trans (bmv.mono HC.out.size))
              clear bmv S11 S12 Q4 S17 HC
              have S11 := Lib.hid S11'.out
              have S12 := Lib.hid S12'.out
              have Q4 := Lib.hid Q4'.out
              have S17 := Lib.hid S17'.out
              have HC := Lib.hid HC'.out
              clear S11' S12' Q4' S17' HC'
              clear bel
              have HS := Lib.hid (show (fun Wo => HasBlk Wo x17 109 #[.int .i64 (tlo (m 6) a0 b0), .int .i64 (thi (m 6) a0 b0)] ∧ HasBlk Wo x17 109 #[.int .i64 (tlo (m 6) a0 b0), .int .i64 (thi (m 6) a0 b0)]) u4 from ⟨S17.out, S17.out⟩)
              go_wp2
              refine HK _ _ (fun _ => HS.out) ?_
              clear HK
              refine wpAnyE_takeA (i := 6) (v := .tuple #[.agg #[.int .i64 (tlo (m 6) a0 b0), .int .i64 (thi (m 6) a0 b0)], .int .i64 0]) rfl (by kernel_rfl) (fun _ _ _ h => h) (.inl ⟨by first | kernel_rfl | rfl, fun W hW => by go_simp⟩) HS.out ?_
              simp only [Act.put, List.setIfInBounds_toArray]
              refine wpAnyE_takeA (i := 7) (v := .agg #[.int .i64 (tlo (m 6) a0 b0), .int .i64 (thi (m 6) a0 b0)]) rfl (by kernel_rfl) (fun _ _ _ h => h) (.inl ⟨by first | kernel_rfl | rfl, fun W hW => by go_simp⟩) HS.out ?_
              simp only [Act.put]
              refine wpAnyE_takeA (i := 8) (v := .int .i64 0) rfl (by kernel_rfl) (fun _ _ _ h => h) (.inl ⟨by first | kernel_rfl | rfl, fun W hW => by go_simp⟩) HS.out ?_
              simp only [Act.put]
              refine wpAnyE_takeA (i := 9) (v := .pointer (some ⟨(x11 + 1), 4, none⟩)) rfl (by kernel_rfl) (fun _ _ _ h => h) (.inl ⟨by first | kernel_rfl | rfl, fun W hW => by go_simp⟩) HS.out ?_
              simp only [Act.put]
              have s12_ := S12.out.f6
              have hs17 : (x11 + 1) < x17 := L17.out
              have hq4 : (w.heap.size + 1 + 1) < x11 := LX.out
              refine wpAnyE_step (i := 10) rfl (by kernel_rfl) (fun KQ HK => ?_)
              go_wp2
              have R12 := Lib.hid (show HasBlk ((u4.setCell ⟨(x11 + 1), 4, none⟩ (.int .i64 (tlo (m 6) a0 b0))).setCell ⟨(x11 + 1), 5, none⟩ (.int .i64 (thi (m 6) a0 b0))) (x11 + 1) 110 #[.int .i64 ((tlo (m 0) a0 b0 + tlo (m 1) a1 b1 + tlo (m 2) a2 b2) / 256), .int .i64 ((thi (m 0) a0 b0 + thi (m 1) a1 b1 + thi (m 2) a2 b2) / 256), .int .i64 ((tlo (m 3) a0 b0 + tlo (m 4) a1 b1 + tlo (m 5) a2 b2) / 256), .int .i64 ((thi (m 3) a0 b0 + thi (m 4) a1 b1 + thi (m 5) a2 b2) / 256), .int .i64 (tlo (m 6) a0 b0), .int .i64 (thi (m 6) a0 b0)] by simpa using (S12.out.set 4 (.int .i64 (tlo (m 6) a0 b0))).set 5 (.int .i64 (thi (m 6) a0 b0)))
              have R11 := Lib.hid (show HasBlk ((u4.setCell ⟨(x11 + 1), 4, none⟩ (.int .i64 (tlo (m 6) a0 b0))).setCell ⟨(x11 + 1), 5, none⟩ (.int .i64 (thi (m 6) a0 b0))) x11 110 #[.int .i64 a0, .int .i64 b0, .int .i64 a1, .int .i64 b1, .int .i64 a2, .int .i64 b2] from ((S11.out.far (p := ⟨(x11 + 1), 4, none⟩) (by first | omega | (simp; done) | (simp; omega)) (.int .i64 (tlo (m 6) a0 b0))).far (p := ⟨(x11 + 1), 5, none⟩) (by first | omega | (simp; done) | (simp; omega)) (.int .i64 (thi (m 6) a0 b0))))
              have R4 := Lib.hid (show HasBlk ((u4.setCell ⟨(x11 + 1), 4, none⟩ (.int .i64 (tlo (m 6) a0 b0))).setCell ⟨(x11 + 1), 5, none⟩ (.int .i64 (thi (m 6) a0 b0))) (w.heap.size + 1 + 1) 50 #[.int .i64 0, .int .i64 0, .int .i64 0, .int .i64 0, .int .i64 0, .int .i64 0] from ((Q4.out.far (p := ⟨(x11 + 1), 4, none⟩) (by first | omega | (simp; done) | (simp; omega)) (.int .i64 (tlo (m 6) a0 b0))).far (p := ⟨(x11 + 1), 5, none⟩) (by first | omega | (simp; done) | (simp; omega)) (.int .i64 (thi (m 6) a0 b0))))
              have R17 := Lib.hid (show HasBlk ((u4.setCell ⟨(x11 + 1), 4, none⟩ (.int .i64 (tlo (m 6) a0 b0))).setCell ⟨(x11 + 1), 5, none⟩ (.int .i64 (thi (m 6) a0 b0))) x17 109 #[.int .i64 (tlo (m 6) a0 b0), .int .i64 (thi (m 6) a0 b0)] from ((S17.out.far (p := ⟨(x11 + 1), 4, none⟩) (by first | omega | (simp; done) | (simp; omega)) (.int .i64 (tlo (m 6) a0 b0))).far (p := ⟨(x11 + 1), 5, none⟩) (by first | omega | (simp; done) | (simp; omega)) (.int .i64 (thi (m 6) a0 b0))))
              have HD := Lib.hid (show Below w.heap.size w ((u4.setCell ⟨(x11 + 1), 4, none⟩ (.int .i64 (tlo (m 6) a0 b0))).setCell ⟨(x11 + 1), 5, none⟩ (.int .i64 (thi (m 6) a0 b0))) from Below.setCell (Below.setCell HC.out (by first | omega | (simp; done) | (simp; omega)) _) (by first | omega | (simp; done) | (simp; omega)) _)
              have HS2 := Lib.hid (show (fun Wo => HasBlk Wo x17 109 #[.int .i64 (tlo (m 6) a0 b0), .int .i64 (thi (m 6) a0 b0)] ∧ HasBlk Wo x17 109 #[.int .i64 (tlo (m 6) a0 b0), .int .i64 (thi (m 6) a0 b0)]) ((u4.setCell ⟨(x11 + 1), 4, none⟩ (.int .i64 (tlo (m 6) a0 b0))).setCell ⟨(x11 + 1), 5, none⟩ (.int .i64 (thi (m 6) a0 b0))) from ⟨R17.out, R17.out⟩)
              clear s12_
              clear S12 S11 Q4 S17 HC HS hs17
              refine HK _ _ (fun _ => HS2.out) ?_
              clear HK
              generalize ((u4.setCell ⟨(x11 + 1), 4, none⟩ (.int .i64 (tlo (m 6) a0 b0))).setCell ⟨(x11 + 1), 5, none⟩ (.int .i64 (thi (m 6) a0 b0))) = u5 at *
              refine wpAnyE_takeA (i := 11) (v := .int .i64 0) rfl (by kernel_rfl) (fun _ _ _ h => h) (.inl ⟨by first | kernel_rfl | rfl, fun W hW => by go_simp⟩) HS2.out ?_
              simp only [Act.put, List.setIfInBounds_toArray]
              refine wpAnyE_done (by kernel_rfl) ?_
              go_wp2
              go_roundw
              case rel => exact Lib.hid (.inr ((.inl ⟨by go_num, R12.out, R11.out, R4.out, HD.out⟩)))
              case measure => simp [intOf]
            · have hx3 := ix_num1
              have S12 := Lib.hid h1
              have S11 := Lib.hid h2
              have Q4 := Lib.hid h3
              have HC := Lib.hid h4
              clear h1 h2 h3 h4
              have s11_ := S11.out.c6
              go_wp2_with fail
              refine (KS7.out _).mono ?_
              rintro e u1 ⟨rfl, bel⟩
              clear s11_
              have bmv := bel
              have S11' := Lib.hid (S11.out.below bmv)
              have S12' := Lib.hid (S12.out.below bmv)
              have Q4' := Lib.hid (Q4.out.below bmv)
              have HC' := Lib.hid (HC.out.trans (bmv.mono HC.out.size))
              clear bmv S11 S12 Q4 HC
              have S11 := Lib.hid S11'.out
              have S12 := Lib.hid S12'.out
              have Q4 := Lib.hid Q4'.out
              have HC := Lib.hid HC'.out
              clear S11' S12' Q4' HC'
              clear bel hx3
              go_upto_region 25 with fail
              have S17 := Lib.hid (hasBlk_new u1 109 #[.int .i64 (tlo (m 7) a1 b1), .int .i64 (thi (m 7) a1 b1)])
              have hl17 := S12.out.lt
              have bA := (Below.refl u1.heap.size u1).alloc (Nat.le_refl _) (.cells #[.int .i64 (tlo (m 7) a1 b1), .int .i64 (thi (m 7) a1 b1)] 109)
              have bmv := bA
              have S11' := Lib.hid (S11.out.below bmv)
              have S12' := Lib.hid (S12.out.below bmv)
              have Q4' := Lib.hid (Q4.out.below bmv)
              have HC' := Lib.hid (HC.out.trans (bmv.mono HC.out.size))
              clear bmv S11 S12 Q4 HC
              have S11 := Lib.hid S11'.out
              have S12 := Lib.hid S12'.out
              have Q4 := Lib.hid Q4'.out
              have HC := Lib.hid HC'.out
              clear S11' S12' Q4' HC'
              clear bA
              obtain ⟨x17, hx17⟩ : ∃ x17, x17 = u1.heap.size := ⟨_, rfl⟩
              rw [← hx17] at S17 hl17 ⊢
              have L17 := Lib.hid hl17
              clear hx17 hl17
              generalize u1.alloc (.cells #[.int .i64 (tlo (m 7) a1 b1), .int .i64 (thi (m 7) a1 b1)] 109) = u2 at *
              have bd := (Below.refl u2.heap.size u2).drew
              have bmv := bd
              have S11' := Lib.hid (S11.out.below bmv)
              have S12' := Lib.hid (S12.out.below bmv)
              have Q4' := Lib.hid (Q4.out.below bmv)
              have S17' := Lib.hid (S17.out.below bmv)
              have HC' := Lib.hid (HC.out.trans (bmv.mono HC.out.size))
              clear bmv S11 S12 Q4 S17 HC
              have S11 := Lib.hid S11'.out
              have S12 := Lib.hid S12'.out
              have Q4 := Lib.hid Q4'.out
              have S17 := Lib.hid S17'.out
              have HC := Lib.hid HC'.out
              clear S11' S12' Q4' S17' HC'
              clear bd
              have HS := Lib.hid (show (fun Wo => HasBlk Wo x17 109 #[.int .i64 (tlo (m 7) a1 b1), .int .i64 (thi (m 7) a1 b1)] ∧ HasBlk Wo x17 109 #[.int .i64 (tlo (m 7) a1 b1), .int .i64 (thi (m 7) a1 b1)]) u2.drew from ⟨S17.out, S17.out⟩)
              refine wp_region_E (fun Wo => HasBlk Wo x17 109 #[.int .i64 (tlo (m 7) a1 b1), .int .i64 (thi (m 7) a1 b1)] ∧ HasBlk Wo x17 109 #[.int .i64 (tlo (m 7) a1 b1), .int .i64 (thi (m 7) a1 b1)]) 99 (by kernel_rfl) ?_
              generalize u2.drew = u3 at *
              refine wpAnyE_takeA (i := 0) (v := .int .i64 2) rfl (by kernel_rfl) (fun _ _ _ h => h) (.inl ⟨by first | kernel_rfl | rfl, fun W hW => by go_simp⟩) HS.out ?_
              simp only [Act.put, List.setIfInBounds_toArray]
              refine wpAnyE_takeA (i := 1) (v := .int .i64 2) rfl (by kernel_rfl) (fun _ _ _ h => h) (.inl ⟨by first | kernel_rfl | rfl, fun W hW => by go_simp⟩) HS.out ?_
              simp only [Act.put]
              refine wpAnyE_takeA (i := 2) (v := .pointer (some ⟨(x11 + 1), 4, none⟩)) rfl (by kernel_rfl) (fun _ _ _ h => h) (.inl ⟨by first | kernel_rfl | rfl, fun W hW => by go_simp⟩) HS.out ?_
              simp only [Act.put]
              refine wpAnyE_takeA (i := 4) (v := .agg #[.int .i64 (tlo (m 7) a1 b1), .int .i64 (thi (m 7) a1 b1)]) rfl (by kernel_rfl) (fun _ _ _ h => h) (.inl ⟨by first | kernel_rfl | rfl, fun W hW => ?_⟩) HS.out ?_
              · have q0 := hW.1.cell 0
                have q1 := hW.1.cell 1
                have qz := hW.1.lt
                simp at q0 q1
                go_simp
              simp only [Act.put]
              have s12_ := S12.out.c6
              refine wpAnyE_step (i := 3) rfl (by kernel_rfl) (fun KQ HK => ?_)
              go_wp2
              refine HK _ _ (fun _ => HS.out) ?_
              clear HK
              clear s12_
              refine wpAnyE_step (i := 5) rfl (by kernel_rfl) (fun KQ HK => ?_)
              have KX := Lib.hid (KA7.out u3)
              go_wp2_with fail
              refine KX.out.mono ?_
              rintro e u4 ⟨rfl, bel⟩
              clear KX HS
              have bmv := bel
              have S11' := Lib.hid (S11.out.below bmv)
              have S12' := Lib.hid (S12.out.below bmv)
              have Q4' := Lib.hid (Q4.out.below bmv)
              have S17' := Lib.hid (S17.out.below bmv)
              have HC' := Lib.hid (HC.out.trans (bmv.mono HC.out.size))
              clear bmv S11 S12 Q4 S17 HC
              have S11 := Lib.hid S11'.out
              have S12 := Lib.hid S12'.out
              have Q4 := Lib.hid Q4'.out
              have S17 := Lib.hid S17'.out
              have HC := Lib.hid HC'.out
              clear S11' S12' Q4' S17' HC'
              clear bel
              have HS := Lib.hid (show (fun Wo => HasBlk Wo x17 109 #[.int .i64 (tlo (m 7) a1 b1), .int .i64 (thi (m 7) a1 b1)] ∧ HasBlk Wo x17 109 #[.int .i64 (tlo (m 7) a1 b1), .int .i64 (thi (m 7) a1 b1)]) u4 from ⟨S17.out, S17.out⟩)
              go_wp2
              refine HK _ _ (fun _ => HS.out) ?_
              clear HK
              refine wpAnyE_takeA (i := 6) (v := .tuple #[.agg #[.int .i64 (tlo (m 6) a0 b0 + tlo (m 7) a1 b1), .int .i64 (thi (m 6) a0 b0 + thi (m 7) a1 b1)], .int .i64 0]) rfl (by kernel_rfl) (fun _ _ _ h => h) (.inl ⟨by first | kernel_rfl | rfl, fun W hW => by go_simp⟩) HS.out ?_
              simp only [Act.put, List.setIfInBounds_toArray]
              refine wpAnyE_takeA (i := 7) (v := .agg #[.int .i64 (tlo (m 6) a0 b0 + tlo (m 7) a1 b1), .int .i64 (thi (m 6) a0 b0 + thi (m 7) a1 b1)]) rfl (by kernel_rfl) (fun _ _ _ h => h) (.inl ⟨by first | kernel_rfl | rfl, fun W hW => by go_simp⟩) HS.out ?_
              simp only [Act.put]
              refine wpAnyE_takeA (i := 8) (v := .int .i64 0) rfl (by kernel_rfl) (fun _ _ _ h => h) (.inl ⟨by first | kernel_rfl | rfl, fun W hW => by go_simp⟩) HS.out ?_
              simp only [Act.put]
              refine wpAnyE_takeA (i := 9) (v := .pointer (some ⟨(x11 + 1), 4, none⟩)) rfl (by kernel_rfl) (fun _ _ _ h => h) (.inl ⟨by first | kernel_rfl | rfl, fun W hW => by go_simp⟩) HS.out ?_
              simp only [Act.put]
              have s12_ := S12.out.f6
              have hs17 : (x11 + 1) < x17 := L17.out
              have hq4 : (w.heap.size + 1 + 1) < x11 := LX.out
              refine wpAnyE_step (i := 10) rfl (by kernel_rfl) (fun KQ HK => ?_)
              go_wp2
              have R12 := Lib.hid (show HasBlk ((u4.setCell ⟨(x11 + 1), 4, none⟩ (.int .i64 (tlo (m 6) a0 b0 + tlo (m 7) a1 b1))).setCell ⟨(x11 + 1), 5, none⟩ (.int .i64 (thi (m 6) a0 b0 + thi (m 7) a1 b1))) (x11 + 1) 110 #[.int .i64 ((tlo (m 0) a0 b0 + tlo (m 1) a1 b1 + tlo (m 2) a2 b2) / 256), .int .i64 ((thi (m 0) a0 b0 + thi (m 1) a1 b1 + thi (m 2) a2 b2) / 256), .int .i64 ((tlo (m 3) a0 b0 + tlo (m 4) a1 b1 + tlo (m 5) a2 b2) / 256), .int .i64 ((thi (m 3) a0 b0 + thi (m 4) a1 b1 + thi (m 5) a2 b2) / 256), .int .i64 (tlo (m 6) a0 b0 + tlo (m 7) a1 b1), .int .i64 (thi (m 6) a0 b0 + thi (m 7) a1 b1)] by simpa using (S12.out.set 4 (.int .i64 (tlo (m 6) a0 b0 + tlo (m 7) a1 b1))).set 5 (.int .i64 (thi (m 6) a0 b0 + thi (m 7) a1 b1)))
              have R11 := Lib.hid (show HasBlk ((u4.setCell ⟨(x11 + 1), 4, none⟩ (.int .i64 (tlo (m 6) a0 b0 + tlo (m 7) a1 b1))).setCell ⟨(x11 + 1), 5, none⟩ (.int .i64 (thi (m 6) a0 b0 + thi (m 7) a1 b1))) x11 110 #[.int .i64 a0, .int .i64 b0, .int .i64 a1, .int .i64 b1, .int .i64 a2, .int .i64 b2] from ((S11.out.far (p := ⟨(x11 + 1), 4, none⟩) (by first | omega | (simp; done) | (simp; omega)) (.int .i64 (tlo (m 6) a0 b0 + tlo (m 7) a1 b1))).far (p := ⟨(x11 + 1), 5, none⟩) (by first | omega | (simp; done) | (simp; omega)) (.int .i64 (thi (m 6) a0 b0 + thi (m 7) a1 b1))))
              have R4 := Lib.hid (show HasBlk ((u4.setCell ⟨(x11 + 1), 4, none⟩ (.int .i64 (tlo (m 6) a0 b0 + tlo (m 7) a1 b1))).setCell ⟨(x11 + 1), 5, none⟩ (.int .i64 (thi (m 6) a0 b0 + thi (m 7) a1 b1))) (w.heap.size + 1 + 1) 50 #[.int .i64 0, .int .i64 0, .int .i64 0, .int .i64 0, .int .i64 0, .int .i64 0] from ((Q4.out.far (p := ⟨(x11 + 1), 4, none⟩) (by first | omega | (simp; done) | (simp; omega)) (.int .i64 (tlo (m 6) a0 b0 + tlo (m 7) a1 b1))).far (p := ⟨(x11 + 1), 5, none⟩) (by first | omega | (simp; done) | (simp; omega)) (.int .i64 (thi (m 6) a0 b0 + thi (m 7) a1 b1))))
              have R17 := Lib.hid (show HasBlk ((u4.setCell ⟨(x11 + 1), 4, none⟩ (.int .i64 (tlo (m 6) a0 b0 + tlo (m 7) a1 b1))).setCell ⟨(x11 + 1), 5, none⟩ (.int .i64 (thi (m 6) a0 b0 + thi (m 7) a1 b1))) x17 109 #[.int .i64 (tlo (m 7) a1 b1), .int .i64 (thi (m 7) a1 b1)] from ((S17.out.far (p := ⟨(x11 + 1), 4, none⟩) (by first | omega | (simp; done) | (simp; omega)) (.int .i64 (tlo (m 6) a0 b0 + tlo (m 7) a1 b1))).far (p := ⟨(x11 + 1), 5, none⟩) (by first | omega | (simp; done) | (simp; omega)) (.int .i64 (thi (m 6) a0 b0 + thi (m 7) a1 b1))))
              have HD := Lib.hid (show Below w.heap.size w ((u4.setCell ⟨(x11 + 1), 4, none⟩ (.int .i64 (tlo (m 6) a0 b0 + tlo (m 7) a1 b1))).setCell ⟨(x11 + 1), 5, none⟩ (.int .i64 (thi (m 6) a0 b0 + thi (m 7) a1 b1))) from Below.setCell (Below.setCell HC.out (by first | omega | (simp; done) | (simp; omega)) _) (by first | omega | (simp; done) | (simp; omega)) _)
              have HS2 := Lib.hid (show (fun Wo => HasBlk Wo x17 109 #[.int .i64 (tlo (m 7) a1 b1), .int .i64 (thi (m 7) a1 b1)] ∧ HasBlk Wo x17 109 #[.int .i64 (tlo (m 7) a1 b1), .int .i64 (thi (m 7) a1 b1)]) ((u4.setCell ⟨(x11 + 1), 4, none⟩ (.int .i64 (tlo (m 6) a0 b0 + tlo (m 7) a1 b1))).setCell ⟨(x11 + 1), 5, none⟩ (.int .i64 (thi (m 6) a0 b0 + thi (m 7) a1 b1))) from ⟨R17.out, R17.out⟩)
              clear s12_
              clear S12 S11 Q4 S17 HC HS hs17
              refine HK _ _ (fun _ => HS2.out) ?_
              clear HK
              generalize ((u4.setCell ⟨(x11 + 1), 4, none⟩ (.int .i64 (tlo (m 6) a0 b0 + tlo (m 7) a1 b1))).setCell ⟨(x11 + 1), 5, none⟩ (.int .i64 (thi (m 6) a0 b0 + thi (m 7) a1 b1))) = u5 at *
              refine wpAnyE_takeA (i := 11) (v := .int .i64 0) rfl (by kernel_rfl) (fun _ _ _ h => h) (.inl ⟨by first | kernel_rfl | rfl, fun W hW => by go_simp⟩) HS2.out ?_
              simp only [Act.put, List.setIfInBounds_toArray]
              refine wpAnyE_done (by kernel_rfl) ?_
              go_wp2
              go_roundw
              case rel => exact Lib.hid (.inr (.inr ((.inl ⟨by go_num, R12.out, R11.out, R4.out, HD.out⟩))))
              case measure => simp [intOf]
            · have hx3 := ix_num2
              have S12 := Lib.hid h1
              have S11 := Lib.hid h2
              have Q4 := Lib.hid h3
              have HC := Lib.hid h4
              clear h1 h2 h3 h4
              have s11_ := S11.out.c6
              go_wp2_with fail
              refine (KS8.out _).mono ?_
              rintro e u1 ⟨rfl, bel⟩
              clear s11_
              have bmv := bel
              have S11' := Lib.hid (S11.out.below bmv)
              have S12' := Lib.hid (S12.out.below bmv)
              have Q4' := Lib.hid (Q4.out.below bmv)
              have HC' := Lib.hid (HC.out.trans (bmv.mono HC.out.size))
              clear bmv S11 S12 Q4 HC
              have S11 := Lib.hid S11'.out
              have S12 := Lib.hid S12'.out
              have Q4 := Lib.hid Q4'.out
              have HC := Lib.hid HC'.out
              clear S11' S12' Q4' HC'
              clear bel hx3
              go_upto_region 25 with fail
              have S17 := Lib.hid (hasBlk_new u1 109 #[.int .i64 (tlo (m 8) a2 b2), .int .i64 (thi (m 8) a2 b2)])
              have hl17 := S12.out.lt
              have bA := (Below.refl u1.heap.size u1).alloc (Nat.le_refl _) (.cells #[.int .i64 (tlo (m 8) a2 b2), .int .i64 (thi (m 8) a2 b2)] 109)
              have bmv := bA
              have S11' := Lib.hid (S11.out.below bmv)
              have S12' := Lib.hid (S12.out.below bmv)
              have Q4' := Lib.hid (Q4.out.below bmv)
              have HC' := Lib.hid (HC.out.trans (bmv.mono HC.out.size))
              clear bmv S11 S12 Q4 HC
              have S11 := Lib.hid S11'.out
              have S12 := Lib.hid S12'.out
              have Q4 := Lib.hid Q4'.out
              have HC := Lib.hid HC'.out
              clear S11' S12' Q4' HC'
              clear bA
              obtain ⟨x17, hx17⟩ : ∃ x17, x17 = u1.heap.size := ⟨_, rfl⟩
              rw [← hx17] at S17 hl17 ⊢
              have L17 := Lib.hid hl17
              clear hx17 hl17
              generalize u1.alloc (.cells #[.int .i64 (tlo (m 8) a2 b2), .int .i64 (thi (m 8) a2 b2)] 109) = u2 at *
              have bd := (Below.refl u2.heap.size u2).drew
              have bmv := bd
              have S11' := Lib.hid (S11.out.below bmv)
              have S12' := Lib.hid (S12.out.below bmv)
              have Q4' := Lib.hid (Q4.out.below bmv)
              have S17' := Lib.hid (S17.out.below bmv)
              have HC' := Lib.hid (HC.out.trans (bmv.mono HC.out.size))
              clear bmv S11 S12 Q4 S17 HC
              have S11 := Lib.hid S11'.out
              have S12 := Lib.hid S12'.out
              have Q4 := Lib.hid Q4'.out
              have S17 := Lib.hid S17'.out
              have HC := Lib.hid HC'.out
              clear S11' S12' Q4' S17' HC'
              clear bd
              have HS := Lib.hid (show (fun Wo => HasBlk Wo x17 109 #[.int .i64 (tlo (m 8) a2 b2), .int .i64 (thi (m 8) a2 b2)] ∧ HasBlk Wo x17 109 #[.int .i64 (tlo (m 8) a2 b2), .int .i64 (thi (m 8) a2 b2)]) u2.drew from ⟨S17.out, S17.out⟩)
              refine wp_region_E (fun Wo => HasBlk Wo x17 109 #[.int .i64 (tlo (m 8) a2 b2), .int .i64 (thi (m 8) a2 b2)] ∧ HasBlk Wo x17 109 #[.int .i64 (tlo (m 8) a2 b2), .int .i64 (thi (m 8) a2 b2)]) 99 (by kernel_rfl) ?_
              generalize u2.drew = u3 at *
              refine wpAnyE_takeA (i := 0) (v := .int .i64 2) rfl (by kernel_rfl) (fun _ _ _ h => h) (.inl ⟨by first | kernel_rfl | rfl, fun W hW => by go_simp⟩) HS.out ?_
              simp only [Act.put, List.setIfInBounds_toArray]
              refine wpAnyE_takeA (i := 1) (v := .int .i64 2) rfl (by kernel_rfl) (fun _ _ _ h => h) (.inl ⟨by first | kernel_rfl | rfl, fun W hW => by go_simp⟩) HS.out ?_
              simp only [Act.put]
              refine wpAnyE_takeA (i := 2) (v := .pointer (some ⟨(x11 + 1), 4, none⟩)) rfl (by kernel_rfl) (fun _ _ _ h => h) (.inl ⟨by first | kernel_rfl | rfl, fun W hW => by go_simp⟩) HS.out ?_
              simp only [Act.put]
              refine wpAnyE_takeA (i := 4) (v := .agg #[.int .i64 (tlo (m 8) a2 b2), .int .i64 (thi (m 8) a2 b2)]) rfl (by kernel_rfl) (fun _ _ _ h => h) (.inl ⟨by first | kernel_rfl | rfl, fun W hW => ?_⟩) HS.out ?_
              · have q0 := hW.1.cell 0
                have q1 := hW.1.cell 1
                have qz := hW.1.lt
                simp at q0 q1
                go_simp
              simp only [Act.put]
              have s12_ := S12.out.c6
              refine wpAnyE_step (i := 3) rfl (by kernel_rfl) (fun KQ HK => ?_)
              go_wp2
              refine HK _ _ (fun _ => HS.out) ?_
              clear HK
              clear s12_
              refine wpAnyE_step (i := 5) rfl (by kernel_rfl) (fun KQ HK => ?_)
              have KX := Lib.hid (KA8.out u3)
              go_wp2_with fail
              refine KX.out.mono ?_
              rintro e u4 ⟨rfl, bel⟩
              clear KX HS
              have bmv := bel
              have S11' := Lib.hid (S11.out.below bmv)
              have S12' := Lib.hid (S12.out.below bmv)
              have Q4' := Lib.hid (Q4.out.below bmv)
              have S17' := Lib.hid (S17.out.below bmv)
              have HC' := Lib.hid (HC.out.trans (bmv.mono HC.out.size))
              clear bmv S11 S12 Q4 S17 HC
              have S11 := Lib.hid S11'.out
              have S12 := Lib.hid S12'.out
              have Q4 := Lib.hid Q4'.out
              have S17 := Lib.hid S17'.out
              have HC := Lib.hid HC'.out
              clear S11' S12' Q4' S17' HC'
              clear bel
              have HS := Lib.hid (show (fun Wo => HasBlk Wo x17 109 #[.int .i64 (tlo (m 8) a2 b2), .int .i64 (thi (m 8) a2 b2)] ∧ HasBlk Wo x17 109 #[.int .i64 (tlo (m 8) a2 b2), .int .i64 (thi (m 8) a2 b2)]) u4 from ⟨S17.out, S17.out⟩)
              go_wp2
              refine HK _ _ (fun _ => HS.out) ?_
              clear HK
              refine wpAnyE_takeA (i := 6) (v := .tuple #[.agg #[.int .i64 (tlo (m 6) a0 b0 + tlo (m 7) a1 b1 + tlo (m 8) a2 b2), .int .i64 (thi (m 6) a0 b0 + thi (m 7) a1 b1 + thi (m 8) a2 b2)], .int .i64 0]) rfl (by kernel_rfl) (fun _ _ _ h => h) (.inl ⟨by first | kernel_rfl | rfl, fun W hW => by go_simp⟩) HS.out ?_
              simp only [Act.put, List.setIfInBounds_toArray]
              refine wpAnyE_takeA (i := 7) (v := .agg #[.int .i64 (tlo (m 6) a0 b0 + tlo (m 7) a1 b1 + tlo (m 8) a2 b2), .int .i64 (thi (m 6) a0 b0 + thi (m 7) a1 b1 + thi (m 8) a2 b2)]) rfl (by kernel_rfl) (fun _ _ _ h => h) (.inl ⟨by first | kernel_rfl | rfl, fun W hW => by go_simp⟩) HS.out ?_
              simp only [Act.put]
              refine wpAnyE_takeA (i := 8) (v := .int .i64 0) rfl (by kernel_rfl) (fun _ _ _ h => h) (.inl ⟨by first | kernel_rfl | rfl, fun W hW => by go_simp⟩) HS.out ?_
              simp only [Act.put]
              refine wpAnyE_takeA (i := 9) (v := .pointer (some ⟨(x11 + 1), 4, none⟩)) rfl (by kernel_rfl) (fun _ _ _ h => h) (.inl ⟨by first | kernel_rfl | rfl, fun W hW => by go_simp⟩) HS.out ?_
              simp only [Act.put]
              have s12_ := S12.out.f6
              have hs17 : (x11 + 1) < x17 := L17.out
              have hq4 : (w.heap.size + 1 + 1) < x11 := LX.out
              refine wpAnyE_step (i := 10) rfl (by kernel_rfl) (fun KQ HK => ?_)
              go_wp2
              have R12 := Lib.hid (show HasBlk ((u4.setCell ⟨(x11 + 1), 4, none⟩ (.int .i64 (tlo (m 6) a0 b0 + tlo (m 7) a1 b1 + tlo (m 8) a2 b2))).setCell ⟨(x11 + 1), 5, none⟩ (.int .i64 (thi (m 6) a0 b0 + thi (m 7) a1 b1 + thi (m 8) a2 b2))) (x11 + 1) 110 #[.int .i64 ((tlo (m 0) a0 b0 + tlo (m 1) a1 b1 + tlo (m 2) a2 b2) / 256), .int .i64 ((thi (m 0) a0 b0 + thi (m 1) a1 b1 + thi (m 2) a2 b2) / 256), .int .i64 ((tlo (m 3) a0 b0 + tlo (m 4) a1 b1 + tlo (m 5) a2 b2) / 256), .int .i64 ((thi (m 3) a0 b0 + thi (m 4) a1 b1 + thi (m 5) a2 b2) / 256), .int .i64 (tlo (m 6) a0 b0 + tlo (m 7) a1 b1 + tlo (m 8) a2 b2), .int .i64 (thi (m 6) a0 b0 + thi (m 7) a1 b1 + thi (m 8) a2 b2)] by simpa using (S12.out.set 4 (.int .i64 (tlo (m 6) a0 b0 + tlo (m 7) a1 b1 + tlo (m 8) a2 b2))).set 5 (.int .i64 (thi (m 6) a0 b0 + thi (m 7) a1 b1 + thi (m 8) a2 b2)))
              have R11 := Lib.hid (show HasBlk ((u4.setCell ⟨(x11 + 1), 4, none⟩ (.int .i64 (tlo (m 6) a0 b0 + tlo (m 7) a1 b1 + tlo (m 8) a2 b2))).setCell ⟨(x11 + 1), 5, none⟩ (.int .i64 (thi (m 6) a0 b0 + thi (m 7) a1 b1 + thi (m 8) a2 b2))) x11 110 #[.int .i64 a0, .int .i64 b0, .int .i64 a1, .int .i64 b1, .int .i64 a2, .int .i64 b2] from ((S11.out.far (p := ⟨(x11 + 1), 4, none⟩) (by first | omega | (simp; done) | (simp; omega)) (.int .i64 (tlo (m 6) a0 b0 + tlo (m 7) a1 b1 + tlo (m 8) a2 b2))).far (p := ⟨(x11 + 1), 5, none⟩) (by first | omega | (simp; done) | (simp; omega)) (.int .i64 (thi (m 6) a0 b0 + thi (m 7) a1 b1 + thi (m 8) a2 b2))))
              have R4 := Lib.hid (show HasBlk ((u4.setCell ⟨(x11 + 1), 4, none⟩ (.int .i64 (tlo (m 6) a0 b0 + tlo (m 7) a1 b1 + tlo (m 8) a2 b2))).setCell ⟨(x11 + 1), 5, none⟩ (.int .i64 (thi (m 6) a0 b0 + thi (m 7) a1 b1 + thi (m 8) a2 b2))) (w.heap.size + 1 + 1) 50 #[.int .i64 0, .int .i64 0, .int .i64 0, .int .i64 0, .int .i64 0, .int .i64 0] from ((Q4.out.far (p := ⟨(x11 + 1), 4, none⟩) (by first | omega | (simp; done) | (simp; omega)) (.int .i64 (tlo (m 6) a0 b0 + tlo (m 7) a1 b1 + tlo (m 8) a2 b2))).far (p := ⟨(x11 + 1), 5, none⟩) (by first | omega | (simp; done) | (simp; omega)) (.int .i64 (thi (m 6) a0 b0 + thi (m 7) a1 b1 + thi (m 8) a2 b2))))
              have R17 := Lib.hid (show HasBlk ((u4.setCell ⟨(x11 + 1), 4, none⟩ (.int .i64 (tlo (m 6) a0 b0 + tlo (m 7) a1 b1 + tlo (m 8) a2 b2))).setCell ⟨(x11 + 1), 5, none⟩ (.int .i64 (thi (m 6) a0 b0 + thi (m 7) a1 b1 + thi (m 8) a2 b2))) x17 109 #[.int .i64 (tlo (m 8) a2 b2), .int .i64 (thi (m 8) a2 b2)] from ((S17.out.far (p := ⟨(x11 + 1), 4, none⟩) (by first | omega | (simp; done) | (simp; omega)) (.int .i64 (tlo (m 6) a0 b0 + tlo (m 7) a1 b1 + tlo (m 8) a2 b2))).far (p := ⟨(x11 + 1), 5, none⟩) (by first | omega | (simp; done) | (simp; omega)) (.int .i64 (thi (m 6) a0 b0 + thi (m 7) a1 b1 + thi (m 8) a2 b2))))
              have HD := Lib.hid (show Below w.heap.size w ((u4.setCell ⟨(x11 + 1), 4, none⟩ (.int .i64 (tlo (m 6) a0 b0 + tlo (m 7) a1 b1 + tlo (m 8) a2 b2))).setCell ⟨(x11 + 1), 5, none⟩ (.int .i64 (thi (m 6) a0 b0 + thi (m 7) a1 b1 + thi (m 8) a2 b2))) from Below.setCell (Below.setCell HC.out (by first | omega | (simp; done) | (simp; omega)) _) (by first | omega | (simp; done) | (simp; omega)) _)
              have HS2 := Lib.hid (show (fun Wo => HasBlk Wo x17 109 #[.int .i64 (tlo (m 8) a2 b2), .int .i64 (thi (m 8) a2 b2)] ∧ HasBlk Wo x17 109 #[.int .i64 (tlo (m 8) a2 b2), .int .i64 (thi (m 8) a2 b2)]) ((u4.setCell ⟨(x11 + 1), 4, none⟩ (.int .i64 (tlo (m 6) a0 b0 + tlo (m 7) a1 b1 + tlo (m 8) a2 b2))).setCell ⟨(x11 + 1), 5, none⟩ (.int .i64 (thi (m 6) a0 b0 + thi (m 7) a1 b1 + thi (m 8) a2 b2))) from ⟨R17.out, R17.out⟩)
              clear s12_
              clear S12 S11 Q4 S17 HC HS hs17
              refine HK _ _ (fun _ => HS2.out) ?_
              clear HK
              generalize ((u4.setCell ⟨(x11 + 1), 4, none⟩ (.int .i64 (tlo (m 6) a0 b0 + tlo (m 7) a1 b1 + tlo (m 8) a2 b2))).setCell ⟨(x11 + 1), 5, none⟩ (.int .i64 (thi (m 6) a0 b0 + thi (m 7) a1 b1 + thi (m 8) a2 b2))) = u5 at *
              refine wpAnyE_takeA (i := 11) (v := .int .i64 0) rfl (by kernel_rfl) (fun _ _ _ h => h) (.inl ⟨by first | kernel_rfl | rfl, fun W hW => by go_simp⟩) HS2.out ?_
              simp only [Act.put, List.setIfInBounds_toArray]
              refine wpAnyE_done (by kernel_rfl) ?_
              go_wp2
              go_roundw
              case rel => exact Lib.hid (.inr (.inr (.inr (⟨by go_num, R12.out, R11.out, R4.out, HD.out⟩))))
              case measure => simp [intOf]
            · have S12 := Lib.hid h1
              have S11 := Lib.hid h2
              have Q4 := Lib.hid h3
              have HC := Lib.hid h4
              have hq4 : (w.heap.size + 1 + 1) < x11 := LX.out
              clear h1 h2 h3 h4
              have s12_ := S12.out.c6
              go_wp2_with fail
              refine (KD2.out _).mono ?_
              rintro e u1 ⟨rfl, bel⟩
              clear s12_
              have bmv := bel
              have S11' := Lib.hid (S11.out.below bmv)
              have S12' := Lib.hid (S12.out.below bmv)
              have Q4' := Lib.hid (Q4.out.below bmv)
              have HC' := Lib.hid (HC.out.trans (bmv.mono HC.out.size))
              clear bmv S11 S12 Q4 HC
              have S11 := Lib.hid S11'.out
              have S12 := Lib.hid S12'.out
              have Q4 := Lib.hid Q4'.out
              have HC := Lib.hid HC'.out
              clear S11' S12' Q4' HC'
              clear bel
              have s12_ := S12.out.f6
              go_upto_region 31 with fail
              have R12 := Lib.hid (show HasBlk ((u1.setCell ⟨(x11 + 1), 4, none⟩ (.int .i64 ((tlo (m 6) a0 b0 + tlo (m 7) a1 b1 + tlo (m 8) a2 b2) / 256))).setCell ⟨(x11 + 1), 5, none⟩ (.int .i64 ((thi (m 6) a0 b0 + thi (m 7) a1 b1 + thi (m 8) a2 b2) / 256))) (x11 + 1) 110 #[.int .i64 ((tlo (m 0) a0 b0 + tlo (m 1) a1 b1 + tlo (m 2) a2 b2) / 256), .int .i64 ((thi (m 0) a0 b0 + thi (m 1) a1 b1 + thi (m 2) a2 b2) / 256), .int .i64 ((tlo (m 3) a0 b0 + tlo (m 4) a1 b1 + tlo (m 5) a2 b2) / 256), .int .i64 ((thi (m 3) a0 b0 + thi (m 4) a1 b1 + thi (m 5) a2 b2) / 256), .int .i64 ((tlo (m 6) a0 b0 + tlo (m 7) a1 b1 + tlo (m 8) a2 b2) / 256), .int .i64 ((thi (m 6) a0 b0 + thi (m 7) a1 b1 + thi (m 8) a2 b2) / 256)] by simpa using (S12.out.set 4 (.int .i64 ((tlo (m 6) a0 b0 + tlo (m 7) a1 b1 + tlo (m 8) a2 b2) / 256))).set 5 (.int .i64 ((thi (m 6) a0 b0 + thi (m 7) a1 b1 + thi (m 8) a2 b2) / 256)))
              have R11 := Lib.hid (show HasBlk ((u1.setCell ⟨(x11 + 1), 4, none⟩ (.int .i64 ((tlo (m 6) a0 b0 + tlo (m 7) a1 b1 + tlo (m 8) a2 b2) / 256))).setCell ⟨(x11 + 1), 5, none⟩ (.int .i64 ((thi (m 6) a0 b0 + thi (m 7) a1 b1 + thi (m 8) a2 b2) / 256))) x11 110 #[.int .i64 a0, .int .i64 b0, .int .i64 a1, .int .i64 b1, .int .i64 a2, .int .i64 b2] from ((S11.out.far (p := ⟨(x11 + 1), 4, none⟩) (by first | omega | (simp; done) | (simp; omega)) (.int .i64 ((tlo (m 6) a0 b0 + tlo (m 7) a1 b1 + tlo (m 8) a2 b2) / 256))).far (p := ⟨(x11 + 1), 5, none⟩) (by first | omega | (simp; done) | (simp; omega)) (.int .i64 ((thi (m 6) a0 b0 + thi (m 7) a1 b1 + thi (m 8) a2 b2) / 256))))
              have R4 := Lib.hid (show HasBlk ((u1.setCell ⟨(x11 + 1), 4, none⟩ (.int .i64 ((tlo (m 6) a0 b0 + tlo (m 7) a1 b1 + tlo (m 8) a2 b2) / 256))).setCell ⟨(x11 + 1), 5, none⟩ (.int .i64 ((thi (m 6) a0 b0 + thi (m 7) a1 b1 + thi (m 8) a2 b2) / 256))) (w.heap.size + 1 + 1) 50 #[.int .i64 0, .int .i64 0, .int .i64 0, .int .i64 0, .int .i64 0, .int .i64 0] from ((Q4.out.far (p := ⟨(x11 + 1), 4, none⟩) (by first | omega | (simp; done) | (simp; omega)) (.int .i64 ((tlo (m 6) a0 b0 + tlo (m 7) a1 b1 + tlo (m 8) a2 b2) / 256))).far (p := ⟨(x11 + 1), 5, none⟩) (by first | omega | (simp; done) | (simp; omega)) (.int .i64 ((thi (m 6) a0 b0 + thi (m 7) a1 b1 + thi (m 8) a2 b2) / 256))))
              have HD := Lib.hid (show Below w.heap.size w ((u1.setCell ⟨(x11 + 1), 4, none⟩ (.int .i64 ((tlo (m 6) a0 b0 + tlo (m 7) a1 b1 + tlo (m 8) a2 b2) / 256))).setCell ⟨(x11 + 1), 5, none⟩ (.int .i64 ((thi (m 6) a0 b0 + thi (m 7) a1 b1 + thi (m 8) a2 b2) / 256))) from Below.setCell (Below.setCell HC.out (by first | omega | (simp; done) | (simp; omega)) _) (by first | omega | (simp; done) | (simp; omega)) _)
              clear s12_
              clear S12 S11 Q4 HC
              generalize ((u1.setCell ⟨(x11 + 1), 4, none⟩ (.int .i64 ((tlo (m 6) a0 b0 + tlo (m 7) a1 b1 + tlo (m 8) a2 b2) / 256))).setCell ⟨(x11 + 1), 5, none⟩ (.int .i64 ((thi (m 6) a0 b0 + thi (m 7) a1 b1 + thi (m 8) a2 b2) / 256))) = u5 at *
              go_wp2
              go_roundw
              case rel => exact Lib.hid (.inr (.inr (.inr (⟨by go_num, R12.out, R11.out, R4.out, HD.out⟩))))
              case measure => simp [intOf]
        · have S12 := Lib.hid h1
          have Q4 := Lib.hid h3
          have HC := Lib.hid h4
          clear h1 h2 h3 h4
          have s12_ := S12.out.c6
          go_wp2_with fail
          refine (KBX.out _).mono ?_
          rintro e z1 ⟨rfl, bel⟩
          clear s12_
          clear S12
          have bmv := bel
          have Q4' := Lib.hid (Q4.out.below bmv)
          have HC' := Lib.hid (HC.out.trans (bmv.mono HC.out.size))
          clear bmv Q4 HC
          have Q4 := Lib.hid Q4'.out
          have HC := Lib.hid HC'.out
          clear Q4' HC'
          clear bel KBX
          have bA := (Below.refl z1.heap.size z1).alloc (Nat.le_refl _) (.cells #[.int .i64 ((tlo (m 0) a0 b0 + tlo (m 1) a1 b1 + tlo (m 2) a2 b2) / 256), .int .i64 ((tlo (m 3) a0 b0 + tlo (m 4) a1 b1 + tlo (m 5) a2 b2) / 256), .int .i64 ((tlo (m 6) a0 b0 + tlo (m 7) a1 b1 + tlo (m 8) a2 b2) / 256), .int .i64 ((thi (m 0) a0 b0 + thi (m 1) a1 b1 + thi (m 2) a2 b2) / 256), .int .i64 ((thi (m 3) a0 b0 + thi (m 4) a1 b1 + thi (m 5) a2 b2) / 256), .int .i64 ((thi (m 6) a0 b0 + thi (m 7) a1 b1 + thi (m 8) a2 b2) / 256)] 50)
          have S20 := Lib.hid (hasBlk_new z1 50 #[.int .i64 ((tlo (m 0) a0 b0 + tlo (m 1) a1 b1 + tlo (m 2) a2 b2) / 256), .int .i64 ((tlo (m 3) a0 b0 + tlo (m 4) a1 b1 + tlo (m 5) a2 b2) / 256), .int .i64 ((tlo (m 6) a0 b0 + tlo (m 7) a1 b1 + tlo (m 8) a2 b2) / 256), .int .i64 ((thi (m 0) a0 b0 + thi (m 1) a1 b1 + thi (m 2) a2 b2) / 256), .int .i64 ((thi (m 3) a0 b0 + thi (m 4) a1 b1 + thi (m 5) a2 b2) / 256), .int .i64 ((thi (m 6) a0 b0 + thi (m 7) a1 b1 + thi (m 8) a2 b2) / 256)])
          go_upto_region 35 with fail
          have bmv := bA
          have Q4' := Lib.hid (Q4.out.below bmv)
          have HC' := Lib.hid (HC.out.trans (bmv.mono HC.out.size))
          clear bmv Q4 HC
          have Q4 := Lib.hid Q4'.out
          have HC := Lib.hid HC'.out
          clear Q4' HC'
          clear bA
          obtain ⟨x20, hx20⟩ : ∃ x20, x20 = z1.heap.size := ⟨_, rfl⟩
          rw [← hx20] at S20 ⊢
          clear hx20
          generalize z1.alloc (.cells #[.int .i64 ((tlo (m 0) a0 b0 + tlo (m 1) a1 b1 + tlo (m 2) a2 b2) / 256), .int .i64 ((tlo (m 3) a0 b0 + tlo (m 4) a1 b1 + tlo (m 5) a2 b2) / 256), .int .i64 ((tlo (m 6) a0 b0 + tlo (m 7) a1 b1 + tlo (m 8) a2 b2) / 256), .int .i64 ((thi (m 0) a0 b0 + thi (m 1) a1 b1 + thi (m 2) a2 b2) / 256), .int .i64 ((thi (m 3) a0 b0 + thi (m 4) a1 b1 + thi (m 5) a2 b2) / 256), .int .i64 ((thi (m 6) a0 b0 + thi (m 7) a1 b1 + thi (m 8) a2 b2) / 256)] 50) = z2 at *
          have s20_ := S20.out.c6
          go_wp2_with fail
          refine (KB.out _).mono ?_
          rintro e z3 ⟨rfl, bel⟩
          clear s20_
          have bmv := bel
          have Q4' := Lib.hid (Q4.out.below bmv)
          have S20' := Lib.hid (S20.out.below bmv)
          have HC' := Lib.hid (HC.out.trans (bmv.mono HC.out.size))
          clear bmv Q4 S20 HC
          have Q4 := Lib.hid Q4'.out
          have S20 := Lib.hid S20'.out
          have HC := Lib.hid HC'.out
          clear Q4' S20' HC'
          clear bel KB
          have s20_ := S20.out.c6
          have q4_ := Q4.out.f6
          go_wp2
          refine bodyPost_ret (v := .tuple #[.agg #[.int .i64 ((tlo (m 0) a0 b0 + tlo (m 1) a1 b1 + tlo (m 2) a2 b2) / 256), .int .i64 ((tlo (m 3) a0 b0 + tlo (m 4) a1 b1 + tlo (m 5) a2 b2) / 256), .int .i64 ((tlo (m 6) a0 b0 + tlo (m 7) a1 b1 + tlo (m 8) a2 b2) / 256), .int .i64 ((thi (m 0) a0 b0 + thi (m 1) a1 b1 + thi (m 2) a2 b2) / 256), .int .i64 ((thi (m 3) a0 b0 + thi (m 4) a1 b1 + thi (m 5) a2 b2) / 256), .int .i64 ((thi (m 6) a0 b0 + thi (m 7) a1 b1 + thi (m 8) a2 b2) / 256)], .int .i64 0]) (by simp [results, Tryd.results26, go_sem, *]) rfl ⟨rfl, ?_⟩
          exact Below.setCell (Below.setCell (Below.setCell (Below.setCell (Below.setCell (Below.setCell HC.out (by first | omega | (simp; done) | (simp; omega)) _) (by first | omega | (simp; done) | (simp; omega)) _) (by first | omega | (simp; done) | (simp; omega)) _) (by first | omega | (simp; done) | (simp; omega)) _) (by first | omega | (simp; done) | (simp; omega)) _) (by first | omega | (simp; done) | (simp; omega)) _
end Go.Proofs.YtemopgpcpjnmkaaDoor
