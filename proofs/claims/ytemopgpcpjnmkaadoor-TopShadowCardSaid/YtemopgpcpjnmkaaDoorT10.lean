/- top: a point as a camera sees it. -/
import Derived.Test.YtemopgpcpjnmkaaDoorT9
namespace Go.Proofs.YtemopgpcpjnmkaaDoor
open Go.RowKit
set_option linter.unusedVariables false
theorem in_blk3 (n : Int) (hn : 0 ≤ n ∧ n ≤ 1099511627776) (g : Nat) (t : TypeId) (a b d : Int) (h : Wi a (-n) n ∧ Wi b (-n) n ∧ Wi d (-n) n) (w : World) (hb : HasBlk w g t #[.int .i64 a, .int .i64 b, .int .i64 d]) :
    Calls Tryd.prog 36 #[.int .i64 n, .slice (some ⟨g, 0, none⟩) 3 3] w fun e w' => e = .returned (.bool true) ∧ Below w.heap.size w w' := by
  refine (in_any n hn (some ⟨g, 0, none⟩) 3 3 (by omega) (fun i => if i = 0 then a else if i = 1 then b else d) w (Row.of_blk (t := t) hb fun i hi j hj => ?_)).mono ?_
  · obtain rfl : j = 0 := by omega
    obtain rfl | rfl | rfl : i = 0 ∨ i = 1 ∨ i = 2 := by omega
    all_goals rfl
  · rintro e w' ⟨⟨q, rfl, hq⟩, bel⟩
    obtain rfl : q = true := hq.2 fun i hi => by
      obtain rfl | rfl | rfl : i = 0 ∨ i = 1 ∨ i = 2 := by omega
      · exact h.1
      · exact h.2.1
      · exact h.2.2
    exact ⟨rfl, bel⟩

set_option maxRecDepth 100000 in
set_option maxHeartbeats 8000000 in
theorem rows_ok (m : Nat → Int) (hm : ∀ q, q < 9 → Wi (m q) (-256) 256) (w : World) : Calls Tryd.prog 76 #[.agg #[.int .i64 (m 0), .int .i64 (m 1), .int .i64 (m 2), .int .i64 (m 3), .int .i64 (m 4), .int .i64 (m 5), .int .i64 (m 6), .int .i64 (m 7), .int .i64 (m 8)]] w fun e w' => e = .returned (.bool true) ∧ Below w.heap.size w w' := by
  have HM := Lib.hid hm
  clear hm
  obtain ⟨v0, hv0, P1, HB⟩ := lay1 w 29 #[.int .i64 (m 0), .int .i64 (m 1), .int .i64 (m 2), .int .i64 (m 3), .int .i64 (m 4), .int .i64 (m 5), .int .i64 (m 6), .int .i64 (m 7), .int .i64 (m 8)]
  go_enter Tryd.func76, Tryd.ntmps76
  go_upto_region 1 with fail
  rw [← hv0.out]
  clear hv0
  have p1_ := P1.out.c9
  go_wp2
  clear p1_
  clear P1
  go_loopw [6] (fun s6 wr => ∃ i : Nat, i ≤ 3 ∧ s6 = .int .i64 i ∧ Below w.heap.size w wr) (fun s6 wr => 3 - (intOf s6).toNat)
  case atStart => exact ⟨0, Nat.zero_le _, rfl, HB.out⟩
  case round =>
    clear HB
    obtain ⟨i, hi, rfl, hbel⟩ := hrel
    obtain rfl | rfl | rfl | rfl : i = 0 ∨ i = 1 ∨ i = 2 ∨ i = 3 := by omega
    · have hx1 := ixm_row0 m
      have BV := Lib.hid hbel
      clear hbel
      go_upto_region 4 with fail
      clear hx1
      have S4 := Lib.hid (hasBlk_new wr 28 #[.int .i64 (m 0), .int .i64 (m 1), .int .i64 (m 2)])
      have BN := Lib.hid (BV.out.alloc BV.out.size (.cells #[.int .i64 (m 0), .int .i64 (m 1), .int .i64 (m 2)] 28))
      clear BV
      obtain ⟨x4, hx4⟩ : ∃ x4, x4 = wr.heap.size := ⟨_, rfl⟩
      rw [← hx4] at S4 ⊢
      clear hx4
      generalize wr.alloc (.cells #[.int .i64 (m 0), .int .i64 (m 1), .int .i64 (m 2)] 28) = u0 at *
      have KX := Lib.hid (in_blk3 1024 (by omega) x4 28 (m 0) (m 1) (m 2) (by have h0 := HM.out 0 (by omega); have h1 := HM.out 1 (by omega); have h2 := HM.out 2 (by omega); unfold Wi at *; omega) u0 S4.out)
      have s4_ := S4.out.c3
      go_wp2_with fail
      refine KX.out.mono ?_
      rintro e u1 ⟨rfl, bel⟩
      clear s4_
      have B2 := Lib.hid (BN.out.trans (bel.mono BN.out.size))
      clear BN bel KX S4
      go_wp2
      go_roundw
      case rel => exact ⟨1, by omega, by go_num, B2.out⟩
      case measure => simp [intOf]
    · have hx1 := ixm_row1 m
      have BV := Lib.hid hbel
      clear hbel
      go_upto_region 4 with fail
      clear hx1
      have S4 := Lib.hid (hasBlk_new wr 28 #[.int .i64 (m 3), .int .i64 (m 4), .int .i64 (m 5)])
      have BN := Lib.hid (BV.out.alloc BV.out.size (.cells #[.int .i64 (m 3), .int .i64 (m 4), .int .i64 (m 5)] 28))
      clear BV
      obtain ⟨x4, hx4⟩ : ∃ x4, x4 = wr.heap.size := ⟨_, rfl⟩
      rw [← hx4] at S4 ⊢
      clear hx4
      generalize wr.alloc (.cells #[.int .i64 (m 3), .int .i64 (m 4), .int .i64 (m 5)] 28) = u0 at *
      have KX := Lib.hid (in_blk3 1024 (by omega) x4 28 (m 3) (m 4) (m 5) (by have h0 := HM.out 3 (by omega); have h1 := HM.out 4 (by omega); have h2 := HM.out 5 (by omega); unfold Wi at *; omega) u0 S4.out)
      have s4_ := S4.out.c3
      go_wp2_with fail
      refine KX.out.mono ?_
      rintro e u1 ⟨rfl, bel⟩
      clear s4_
      have B2 := Lib.hid (BN.out.trans (bel.mono BN.out.size))
      clear BN bel KX S4
      go_wp2
      go_roundw
      case rel => exact ⟨2, by omega, by go_num, B2.out⟩
      case measure => simp [intOf]
    · have hx1 := ixm_row2 m
      have BV := Lib.hid hbel
      clear hbel
      go_upto_region 4 with fail
      clear hx1
      have S4 := Lib.hid (hasBlk_new wr 28 #[.int .i64 (m 6), .int .i64 (m 7), .int .i64 (m 8)])
      have BN := Lib.hid (BV.out.alloc BV.out.size (.cells #[.int .i64 (m 6), .int .i64 (m 7), .int .i64 (m 8)] 28))
      clear BV
      obtain ⟨x4, hx4⟩ : ∃ x4, x4 = wr.heap.size := ⟨_, rfl⟩
      rw [← hx4] at S4 ⊢
      clear hx4
      generalize wr.alloc (.cells #[.int .i64 (m 6), .int .i64 (m 7), .int .i64 (m 8)] 28) = u0 at *
      have KX := Lib.hid (in_blk3 1024 (by omega) x4 28 (m 6) (m 7) (m 8) (by have h0 := HM.out 6 (by omega); have h1 := HM.out 7 (by omega); have h2 := HM.out 8 (by omega); unfold Wi at *; omega) u0 S4.out)
      have s4_ := S4.out.c3
      go_wp2_with fail
      refine KX.out.mono ?_
      rintro e u1 ⟨rfl, bel⟩
      clear s4_
      have B2 := Lib.hid (BN.out.trans (bel.mono BN.out.size))
      clear BN bel KX S4
      go_wp2
      go_roundw
      case rel => exact ⟨3, by omega, by go_num, B2.out⟩
      case measure => simp [intOf]
    · have BV := Lib.hid hbel
      clear hbel
      go_wp2
      go_ret
      exact ⟨rfl, BV.out⟩

set_option maxRecDepth 100000 in
set_option maxHeartbeats 8000000 in
theorem list_any (x y z : Int) (w : World) : Calls Tryd.prog 79 #[.agg #[.int .i64 x, .int .i64 y, .int .i64 z]] w fun e w' => e = .returned (.agg #[.int .i64 x, .int .i64 y, .int .i64 z]) ∧ Below w.heap.size w w' := by
  obtain ⟨v0, hv0, P1, P2, HB⟩ := lay2 w 27 #[.int .i64 x, .int .i64 y, .int .i64 z] 28 #[.int .i64 0, .int .i64 0, .int .i64 0]
  go_enter Tryd.func79, Tryd.ntmps79
  go_upto_region 1 with fail
  rw [← hv0.out]
  clear hv0
  have p1_ := P1.out.c3
  have p2_ := P2.out.f3
  go_wp2
  refine bodyPost_ret (v := .agg #[.int .i64 x, .int .i64 y, .int .i64 z]) (by simp [results, Tryd.results79, go_sem, *]) rfl ⟨rfl, ?_⟩
  repeat (refine Below.setCell ?_ (by first | omega | (simp; done) | (simp; omega)) _)
  exact HB.out

set_option maxRecDepth 100000 in
set_option maxHeartbeats 8000000 in
theorem point_any (x y z : Int) (w : World) : Calls Tryd.prog 77 #[.agg #[.int .i64 x, .int .i64 y, .int .i64 z]] w fun e w' => e = .returned (.agg #[.int .i64 x, .int .i64 y, .int .i64 z]) ∧ Below w.heap.size w w' := by
  obtain ⟨v0, hv0, P1, P2, HB⟩ := lay2 w 28 #[.int .i64 x, .int .i64 y, .int .i64 z] 27 #[.int .i64 0, .int .i64 0, .int .i64 0]
  go_enter Tryd.func77, Tryd.ntmps77
  go_upto_region 1 with fail
  rw [← hv0.out]
  clear hv0
  have p1_ := P1.out.c3
  have p2_ := P2.out.f3
  go_wp2
  refine bodyPost_ret (v := .agg #[.int .i64 x, .int .i64 y, .int .i64 z]) (by simp [results, Tryd.results77, go_sem, *]) rfl ⟨rfl, ?_⟩
  repeat (refine Below.setCell ?_ (by first | omega | (simp; done) | (simp; omega)) _)
  exact HB.out

set_option maxRecDepth 100000 in
set_option maxHeartbeats 16000000 in
theorem vturn_ok (m : Nat → Int) (x y z : Int) (hm : ∀ q, q < 9 → Wi (m q) (-256) 256) (hx : Wi x (-8192) 8192 ∧ Wi y (-8192) 8192 ∧ Wi z (-8192) 8192) (w : World) : Calls Tryd.prog 78 #[.agg #[.int .i64 (m 0), .int .i64 (m 1), .int .i64 (m 2), .int .i64 (m 3), .int .i64 (m 4), .int .i64 (m 5), .int .i64 (m 6), .int .i64 (m 7), .int .i64 (m 8)], .agg #[.int .i64 x, .int .i64 y, .int .i64 z]] w fun e w' => e = .returned (.agg #[.int .i64 ((m 0 * x + m 1 * y + m 2 * z) / 256), .int .i64 ((m 3 * x + m 4 * y + m 5 * z) / 256), .int .i64 ((m 6 * x + m 7 * y + m 8 * z) / 256)]) ∧ Below w.heap.size w w' := by
  have HM := Lib.hid hm
  have HX := Lib.hid hx
  clear hm hx
  obtain ⟨v0, hv0, P2, P3, P4, HB⟩ := lay3 w 29 #[.int .i64 (m 0), .int .i64 (m 1), .int .i64 (m 2), .int .i64 (m 3), .int .i64 (m 4), .int .i64 (m 5), .int .i64 (m 6), .int .i64 (m 7), .int .i64 (m 8)] 28 #[.int .i64 x, .int .i64 y, .int .i64 z] 28 #[.int .i64 0, .int .i64 0, .int .i64 0]
  go_enter Tryd.func78, Tryd.ntmps78
  go_upto_region 1 with fail
  rw [← hv0.out]
  clear hv0
  have p2_ := P2.out.c9
  go_wp2
  clear p2_
  clear P2
  have M0 := Lib.hid (mul256 (A := 8192) (by decide) (HM.out 0 (by omega)) HX.out.1)
  have M1 := Lib.hid (mul256 (A := 8192) (by decide) (HM.out 1 (by omega)) HX.out.2.1)
  have M2 := Lib.hid (mul256 (A := 8192) (by decide) (HM.out 2 (by omega)) HX.out.2.2)
  have M3 := Lib.hid (mul256 (A := 8192) (by decide) (HM.out 3 (by omega)) HX.out.1)
  have M4 := Lib.hid (mul256 (A := 8192) (by decide) (HM.out 4 (by omega)) HX.out.2.1)
  have M5 := Lib.hid (mul256 (A := 8192) (by decide) (HM.out 5 (by omega)) HX.out.2.2)
  have M6 := Lib.hid (mul256 (A := 8192) (by decide) (HM.out 6 (by omega)) HX.out.1)
  have M7 := Lib.hid (mul256 (A := 8192) (by decide) (HM.out 7 (by omega)) HX.out.2.1)
  have M8 := Lib.hid (mul256 (A := 8192) (by decide) (HM.out 8 (by omega)) HX.out.2.2)
  clear HM HX
  go_loopw [11] (fun s11 wr => RowKit.Hid ((s11 = .int .i64 (0 : Nat) ∧ HasBlk wr (w.heap.size + 1 + 1) 28 #[.int .i64 0, .int .i64 0, .int .i64 0] ∧ HasBlk wr (w.heap.size + 1) 28 #[.int .i64 x, .int .i64 y, .int .i64 z] ∧ Below w.heap.size w wr) ∨ ((s11 = .int .i64 (1 : Nat) ∧ HasBlk wr (w.heap.size + 1 + 1) 28 #[.int .i64 ((m 0 * x + m 1 * y + m 2 * z) / 256), .int .i64 0, .int .i64 0] ∧ HasBlk wr (w.heap.size + 1) 28 #[.int .i64 x, .int .i64 y, .int .i64 z] ∧ Below w.heap.size w wr) ∨ ((s11 = .int .i64 (2 : Nat) ∧ HasBlk wr (w.heap.size + 1 + 1) 28 #[.int .i64 ((m 0 * x + m 1 * y + m 2 * z) / 256), .int .i64 ((m 3 * x + m 4 * y + m 5 * z) / 256), .int .i64 0] ∧ HasBlk wr (w.heap.size + 1) 28 #[.int .i64 x, .int .i64 y, .int .i64 z] ∧ Below w.heap.size w wr) ∨ ((s11 = .int .i64 (3 : Nat) ∧ HasBlk wr (w.heap.size + 1 + 1) 28 #[.int .i64 ((m 0 * x + m 1 * y + m 2 * z) / 256), .int .i64 ((m 3 * x + m 4 * y + m 5 * z) / 256), .int .i64 ((m 6 * x + m 7 * y + m 8 * z) / 256)] ∧ HasBlk wr (w.heap.size + 1) 28 #[.int .i64 x, .int .i64 y, .int .i64 z] ∧ Below w.heap.size w wr)))))) (fun s11 wr => 3 - (intOf s11).toNat)
  case atStart => exact Lib.hid (.inl ⟨rfl, P4.out, P3.out, HB.out⟩)
  case round =>
    clear P3 P4 HB
    rcases hrel.out with ⟨rfl, h1, h2, h3⟩ | ⟨rfl, h1, h2, h3⟩ | ⟨rfl, h1, h2, h3⟩ | ⟨rfl, h1, h2, h3⟩
    · have P4 := Lib.hid h1
      have P3 := Lib.hid h2
      have HB := Lib.hid h3
      have hl4 := h1.lt
      clear h1 h2 h3
      have hx1 := ixm_row0 m
      go_upto_region 4 with fail
      obtain ⟨u0, x6, hz, hx', S6, bA⟩ := laidB wr 28 #[.int .i64 (m 0), .int .i64 (m 1), .int .i64 (m 2)]
      rw [← hz.out, ← hx'.out]
      replace P4 := mB P4 bA
      replace P3 := mB P3 bA
      replace HB := mT HB bA
      clear hz hx' bA
      have L6 := Lib.hid hl4
      clear hl4 hx1
      have s6_ := S6.out.c3
      go_wp2
      clear s6_
      clear S6
      go_loopw [16, 7] (fun s16 s7 wr => RowKit.Hid ((s16 = .int .i64 (0 : Nat) ∧ s7 = .int .i64 0 ∧ Below u0.heap.size u0 wr) ∨ ((s16 = .int .i64 (1 : Nat) ∧ s7 = .int .i64 (m 0 * x) ∧ Below u0.heap.size u0 wr) ∨ ((s16 = .int .i64 (2 : Nat) ∧ s7 = .int .i64 (m 0 * x + m 1 * y) ∧ Below u0.heap.size u0 wr) ∨ ((s16 = .int .i64 (3 : Nat) ∧ s7 = .int .i64 (m 0 * x + m 1 * y + m 2 * z) ∧ Below u0.heap.size u0 wr)))))) (fun s16 s7 wr => 3 - (intOf s16).toNat)
      case atStart => exact Lib.hid (.inl ⟨rfl, rfl, Below.refl _ _⟩)
      case round =>
        rcases hrel.out with ⟨rfl, rfl, hb⟩ | ⟨rfl, rfl, hb⟩ | ⟨rfl, rfl, hb⟩ | ⟨rfl, rfl, hb⟩
        · have hx3 := ix_num0
          have HD := Lib.hid hb
          clear hb
          have P3' := Lib.hid (P3.out.below HD.out)
          have p3'_ := P3'.out.c3
          have w1 : IntKind.i64.wrap (m 0 * x) = m 0 * x := IntWalk.i64_in _ (by have t0 := M0.out; omega)
          go_wp2
          go_roundw
          case rel => exact Lib.hid (.inr ((.inl ⟨by go_num, rfl, HD.out⟩)))
          case measure => simp [intOf]
        · have hx3 := ix_num1
          have HD := Lib.hid hb
          clear hb
          have P3' := Lib.hid (P3.out.below HD.out)
          have p3'_ := P3'.out.c3
          have w1 : IntKind.i64.wrap (m 1 * y) = m 1 * y := IntWalk.i64_in _ (by have t0 := M0.out; have t1 := M1.out; omega)
          have w2 : IntKind.i64.wrap (m 0 * x + m 1 * y) = m 0 * x + m 1 * y := IntWalk.i64_in _ (by have t0 := M0.out; have t1 := M1.out; omega)
          go_wp2
          go_roundw
          case rel => exact Lib.hid (.inr (.inr ((.inl ⟨by go_num, rfl, HD.out⟩))))
          case measure => simp [intOf]
        · have hx3 := ix_num2
          have HD := Lib.hid hb
          clear hb
          have P3' := Lib.hid (P3.out.below HD.out)
          have p3'_ := P3'.out.c3
          have w1 : IntKind.i64.wrap (m 2 * z) = m 2 * z := IntWalk.i64_in _ (by have t0 := M0.out; have t1 := M1.out; have t2 := M2.out; omega)
          have w2 : IntKind.i64.wrap (m 0 * x + m 1 * y + m 2 * z) = m 0 * x + m 1 * y + m 2 * z := IntWalk.i64_in _ (by have t0 := M0.out; have t1 := M1.out; have t2 := M2.out; omega)
          go_wp2
          go_roundw
          case rel => exact Lib.hid (.inr (.inr (.inr (⟨by go_num, rfl, HD.out⟩))))
          case measure => simp [intOf]
        · have bel0 := hb
          clear hb
          replace P4 := mB P4 bel0
          replace P3 := mB P3 bel0
          replace HB := mT HB bel0
          clear bel0
          have p4_ := P4.out.f3
          have KX := Lib.hid (floor_any (m 0 * x + m 1 * y + m 2 * z) 256 (by omega) (by omega) (by have t0 := M0.out; have t1 := M1.out; have t2 := M2.out; omega) wr)
          go_wp2_with fail
          refine KX.out.mono ?_
          rintro e u1 ⟨rfl, bel⟩
          clear KX
          clear p4_
          replace P4 := mB P4 bel
          replace P3 := mB P3 bel
          replace HB := mT HB bel
          clear bel
          have p4_ := P4.out.f3
          go_wp2
          have R4 := Lib.hid (show HasBlk (u1.setCell ⟨(w.heap.size + 1 + 1), 0, none⟩ (.int .i64 ((m 0 * x + m 1 * y + m 2 * z) / 256))) (w.heap.size + 1 + 1) 28 #[.int .i64 ((m 0 * x + m 1 * y + m 2 * z) / 256), .int .i64 0, .int .i64 0] by simpa using P4.out.set 0 (.int .i64 ((m 0 * x + m 1 * y + m 2 * z) / 256)))
          have R3 := Lib.hid (show HasBlk (u1.setCell ⟨(w.heap.size + 1 + 1), 0, none⟩ (.int .i64 ((m 0 * x + m 1 * y + m 2 * z) / 256))) (w.heap.size + 1) 28 #[.int .i64 x, .int .i64 y, .int .i64 z] from P3.out.far (p := ⟨(w.heap.size + 1 + 1), 0, none⟩) (by first | omega | (simp; done) | (simp; omega)) (.int .i64 ((m 0 * x + m 1 * y + m 2 * z) / 256)))
          have HE := Lib.hid (show Below w.heap.size w (u1.setCell ⟨(w.heap.size + 1 + 1), 0, none⟩ (.int .i64 ((m 0 * x + m 1 * y + m 2 * z) / 256))) from Below.setCell HB.out (by first | omega | (simp; done) | (simp; omega)) _)
          clear p4_
          clear P4 P3 HB
          generalize (u1.setCell ⟨(w.heap.size + 1 + 1), 0, none⟩ (.int .i64 ((m 0 * x + m 1 * y + m 2 * z) / 256))) = u2 at *
          go_roundw
          case rel => exact Lib.hid (.inr ((.inl ⟨by go_num, R4.out, R3.out, HE.out⟩)))
          case measure => simp [intOf]
    · have P4 := Lib.hid h1
      have P3 := Lib.hid h2
      have HB := Lib.hid h3
      have hl4 := h1.lt
      clear h1 h2 h3
      have hx1 := ixm_row1 m
      go_upto_region 4 with fail
      obtain ⟨u0, x6, hz, hx', S6, bA⟩ := laidB wr 28 #[.int .i64 (m 3), .int .i64 (m 4), .int .i64 (m 5)]
      rw [← hz.out, ← hx'.out]
      replace P4 := mB P4 bA
      replace P3 := mB P3 bA
      replace HB := mT HB bA
      clear hz hx' bA
      have L6 := Lib.hid hl4
      clear hl4 hx1
      have s6_ := S6.out.c3
      go_wp2
      clear s6_
      clear S6
      go_loopw [16, 7] (fun s16 s7 wr => RowKit.Hid ((s16 = .int .i64 (0 : Nat) ∧ s7 = .int .i64 0 ∧ Below u0.heap.size u0 wr) ∨ ((s16 = .int .i64 (1 : Nat) ∧ s7 = .int .i64 (m 3 * x) ∧ Below u0.heap.size u0 wr) ∨ ((s16 = .int .i64 (2 : Nat) ∧ s7 = .int .i64 (m 3 * x + m 4 * y) ∧ Below u0.heap.size u0 wr) ∨ ((s16 = .int .i64 (3 : Nat) ∧ s7 = .int .i64 (m 3 * x + m 4 * y + m 5 * z) ∧ Below u0.heap.size u0 wr)))))) (fun s16 s7 wr => 3 - (intOf s16).toNat)
      case atStart => exact Lib.hid (.inl ⟨rfl, rfl, Below.refl _ _⟩)
      case round =>
        rcases hrel.out with ⟨rfl, rfl, hb⟩ | ⟨rfl, rfl, hb⟩ | ⟨rfl, rfl, hb⟩ | ⟨rfl, rfl, hb⟩
        · have hx3 := ix_num0
          have HD := Lib.hid hb
          clear hb
          have P3' := Lib.hid (P3.out.below HD.out)
          have p3'_ := P3'.out.c3
          have w1 : IntKind.i64.wrap (m 3 * x) = m 3 * x := IntWalk.i64_in _ (by have t0 := M3.out; omega)
          go_wp2
          go_roundw
          case rel => exact Lib.hid (.inr ((.inl ⟨by go_num, rfl, HD.out⟩)))
          case measure => simp [intOf]
        · have hx3 := ix_num1
          have HD := Lib.hid hb
          clear hb
          have P3' := Lib.hid (P3.out.below HD.out)
          have p3'_ := P3'.out.c3
          have w1 : IntKind.i64.wrap (m 4 * y) = m 4 * y := IntWalk.i64_in _ (by have t0 := M3.out; have t1 := M4.out; omega)
          have w2 : IntKind.i64.wrap (m 3 * x + m 4 * y) = m 3 * x + m 4 * y := IntWalk.i64_in _ (by have t0 := M3.out; have t1 := M4.out; omega)
          go_wp2
          go_roundw
          case rel => exact Lib.hid (.inr (.inr ((.inl ⟨by go_num, rfl, HD.out⟩))))
          case measure => simp [intOf]
        · have hx3 := ix_num2
          have HD := Lib.hid hb
          clear hb
          have P3' := Lib.hid (P3.out.below HD.out)
          have p3'_ := P3'.out.c3
          have w1 : IntKind.i64.wrap (m 5 * z) = m 5 * z := IntWalk.i64_in _ (by have t0 := M3.out; have t1 := M4.out; have t2 := M5.out; omega)
          have w2 : IntKind.i64.wrap (m 3 * x + m 4 * y + m 5 * z) = m 3 * x + m 4 * y + m 5 * z := IntWalk.i64_in _ (by have t0 := M3.out; have t1 := M4.out; have t2 := M5.out; omega)
          go_wp2
          go_roundw
          case rel => exact Lib.hid (.inr (.inr (.inr (⟨by go_num, rfl, HD.out⟩))))
          case measure => simp [intOf]
        · have bel0 := hb
          clear hb
          replace P4 := mB P4 bel0
          replace P3 := mB P3 bel0
          replace HB := mT HB bel0
          clear bel0
          have p4_ := P4.out.f3
          have KX := Lib.hid (floor_any (m 3 * x + m 4 * y + m 5 * z) 256 (by omega) (by omega) (by have t0 := M3.out; have t1 := M4.out; have t2 := M5.out; omega) wr)
          go_wp2_with fail
          refine KX.out.mono ?_
          rintro e u1 ⟨rfl, bel⟩
          clear KX
          clear p4_
          replace P4 := mB P4 bel
          replace P3 := mB P3 bel
          replace HB := mT HB bel
          clear bel
          have p4_ := P4.out.f3
          go_wp2
          have R4 := Lib.hid (show HasBlk (u1.setCell ⟨(w.heap.size + 1 + 1), 1, none⟩ (.int .i64 ((m 3 * x + m 4 * y + m 5 * z) / 256))) (w.heap.size + 1 + 1) 28 #[.int .i64 ((m 0 * x + m 1 * y + m 2 * z) / 256), .int .i64 ((m 3 * x + m 4 * y + m 5 * z) / 256), .int .i64 0] by simpa using P4.out.set 1 (.int .i64 ((m 3 * x + m 4 * y + m 5 * z) / 256)))
          have R3 := Lib.hid (show HasBlk (u1.setCell ⟨(w.heap.size + 1 + 1), 1, none⟩ (.int .i64 ((m 3 * x + m 4 * y + m 5 * z) / 256))) (w.heap.size + 1) 28 #[.int .i64 x, .int .i64 y, .int .i64 z] from P3.out.far (p := ⟨(w.heap.size + 1 + 1), 1, none⟩) (by first | omega | (simp; done) | (simp; omega)) (.int .i64 ((m 3 * x + m 4 * y + m 5 * z) / 256)))
          have HE := Lib.hid (show Below w.heap.size w (u1.setCell ⟨(w.heap.size + 1 + 1), 1, none⟩ (.int .i64 ((m 3 * x + m 4 * y + m 5 * z) / 256))) from Below.setCell HB.out (by first | omega | (simp; done) | (simp; omega)) _)
          clear p4_
          clear P4 P3 HB
          generalize (u1.setCell ⟨(w.heap.size + 1 + 1), 1, none⟩ (.int .i64 ((m 3 * x + m 4 * y + m 5 * z) / 256))) = u2 at *
          go_roundw
          case rel => exact Lib.hid (.inr (.inr ((.inl ⟨by go_num, R4.out, R3.out, HE.out⟩))))
          case measure => simp [intOf]
    · have P4 := Lib.hid h1
      have P3 := Lib.hid h2
      have HB := Lib.hid h3
      have hl4 := h1.lt
      clear h1 h2 h3
      have hx1 := ixm_row2 m
      go_upto_region 4 with fail
      obtain ⟨u0, x6, hz, hx', S6, bA⟩ := laidB wr 28 #[.int .i64 (m 6), .int .i64 (m 7), .int .i64 (m 8)]
      rw [← hz.out, ← hx'.out]
      replace P4 := mB P4 bA
      replace P3 := mB P3 bA
      replace HB := mT HB bA
      clear hz hx' bA
      have L6 := Lib.hid hl4
      clear hl4 hx1
      have s6_ := S6.out.c3
      go_wp2
      clear s6_
      clear S6
      go_loopw [16, 7] (fun s16 s7 wr => RowKit.Hid ((s16 = .int .i64 (0 : Nat) ∧ s7 = .int .i64 0 ∧ Below u0.heap.size u0 wr) ∨ ((s16 = .int .i64 (1 : Nat) ∧ s7 = .int .i64 (m 6 * x) ∧ Below u0.heap.size u0 wr) ∨ ((s16 = .int .i64 (2 : Nat) ∧ s7 = .int .i64 (m 6 * x + m 7 * y) ∧ Below u0.heap.size u0 wr) ∨ ((s16 = .int .i64 (3 : Nat) ∧ s7 = .int .i64 (m 6 * x + m 7 * y + m 8 * z) ∧ Below u0.heap.size u0 wr)))))) (fun s16 s7 wr => 3 - (intOf s16).toNat)
      case atStart => exact Lib.hid (.inl ⟨rfl, rfl, Below.refl _ _⟩)
      case round =>
        rcases hrel.out with ⟨rfl, rfl, hb⟩ | ⟨rfl, rfl, hb⟩ | ⟨rfl, rfl, hb⟩ | ⟨rfl, rfl, hb⟩
        · have hx3 := ix_num0
          have HD := Lib.hid hb
          clear hb
          have P3' := Lib.hid (P3.out.below HD.out)
          have p3'_ := P3'.out.c3
          have w1 : IntKind.i64.wrap (m 6 * x) = m 6 * x := IntWalk.i64_in _ (by have t0 := M6.out; omega)
          go_wp2
          go_roundw
          case rel => exact Lib.hid (.inr ((.inl ⟨by go_num, rfl, HD.out⟩)))
          case measure => simp [intOf]
        · have hx3 := ix_num1
          have HD := Lib.hid hb
          clear hb
          have P3' := Lib.hid (P3.out.below HD.out)
          have p3'_ := P3'.out.c3
          have w1 : IntKind.i64.wrap (m 7 * y) = m 7 * y := IntWalk.i64_in _ (by have t0 := M6.out; have t1 := M7.out; omega)
          have w2 : IntKind.i64.wrap (m 6 * x + m 7 * y) = m 6 * x + m 7 * y := IntWalk.i64_in _ (by have t0 := M6.out; have t1 := M7.out; omega)
          go_wp2
          go_roundw
          case rel => exact Lib.hid (.inr (.inr ((.inl ⟨by go_num, rfl, HD.out⟩))))
          case measure => simp [intOf]
        · have hx3 := ix_num2
          have HD := Lib.hid hb
          clear hb
          have P3' := Lib.hid (P3.out.below HD.out)
          have p3'_ := P3'.out.c3
          have w1 : IntKind.i64.wrap (m 8 * z) = m 8 * z := IntWalk.i64_in _ (by have t0 := M6.out; have t1 := M7.out; have t2 := M8.out; omega)
          have w2 : IntKind.i64.wrap (m 6 * x + m 7 * y + m 8 * z) = m 6 * x + m 7 * y + m 8 * z := IntWalk.i64_in _ (by have t0 := M6.out; have t1 := M7.out; have t2 := M8.out; omega)
          go_wp2
          go_roundw
          case rel => exact Lib.hid (.inr (.inr (.inr (⟨by go_num, rfl, HD.out⟩))))
          case measure => simp [intOf]
        · have bel0 := hb
          clear hb
          replace P4 := mB P4 bel0
          replace P3 := mB P3 bel0
          replace HB := mT HB bel0
          clear bel0
          have p4_ := P4.out.f3
          have KX := Lib.hid (floor_any (m 6 * x + m 7 * y + m 8 * z) 256 (by omega) (by omega) (by have t0 := M6.out; have t1 := M7.out; have t2 := M8.out; omega) wr)
          go_wp2_with fail
          refine KX.out.mono ?_
          rintro e u1 ⟨rfl, bel⟩
          clear KX
          clear p4_
          replace P4 := mB P4 bel
          replace P3 := mB P3 bel
          replace HB := mT HB bel
          clear bel
          have p4_ := P4.out.f3
          go_wp2
          have R4 := Lib.hid (show HasBlk (u1.setCell ⟨(w.heap.size + 1 + 1), 2, none⟩ (.int .i64 ((m 6 * x + m 7 * y + m 8 * z) / 256))) (w.heap.size + 1 + 1) 28 #[.int .i64 ((m 0 * x + m 1 * y + m 2 * z) / 256), .int .i64 ((m 3 * x + m 4 * y + m 5 * z) / 256), .int .i64 ((m 6 * x + m 7 * y + m 8 * z) / 256)] by simpa using P4.out.set 2 (.int .i64 ((m 6 * x + m 7 * y + m 8 * z) / 256)))
          have R3 := Lib.hid (show HasBlk (u1.setCell ⟨(w.heap.size + 1 + 1), 2, none⟩ (.int .i64 ((m 6 * x + m 7 * y + m 8 * z) / 256))) (w.heap.size + 1) 28 #[.int .i64 x, .int .i64 y, .int .i64 z] from P3.out.far (p := ⟨(w.heap.size + 1 + 1), 2, none⟩) (by first | omega | (simp; done) | (simp; omega)) (.int .i64 ((m 6 * x + m 7 * y + m 8 * z) / 256)))
          have HE := Lib.hid (show Below w.heap.size w (u1.setCell ⟨(w.heap.size + 1 + 1), 2, none⟩ (.int .i64 ((m 6 * x + m 7 * y + m 8 * z) / 256))) from Below.setCell HB.out (by first | omega | (simp; done) | (simp; omega)) _)
          clear p4_
          clear P4 P3 HB
          generalize (u1.setCell ⟨(w.heap.size + 1 + 1), 2, none⟩ (.int .i64 ((m 6 * x + m 7 * y + m 8 * z) / 256))) = u2 at *
          go_roundw
          case rel => exact Lib.hid (.inr (.inr (.inr (⟨by go_num, R4.out, R3.out, HE.out⟩))))
          case measure => simp [intOf]
    · have P4 := Lib.hid h1
      have HB := Lib.hid h3
      clear h1 h2 h3
      have p4_ := P4.out.f3
      go_wp2
      refine bodyPost_ret (v := .agg #[.int .i64 ((m 0 * x + m 1 * y + m 2 * z) / 256), .int .i64 ((m 3 * x + m 4 * y + m 5 * z) / 256), .int .i64 ((m 6 * x + m 7 * y + m 8 * z) / 256)]) (by simp [results, Tryd.results78, go_sem, *]) rfl ⟨rfl, ?_⟩
      repeat (refine Below.setCell ?_ (by first | omega | (simp; done) | (simp; omega)) _)
      exact HB.out
end Go.Proofs.YtemopgpcpjnmkaaDoor
