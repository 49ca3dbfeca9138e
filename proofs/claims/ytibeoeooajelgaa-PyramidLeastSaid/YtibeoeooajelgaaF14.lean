/- FrameNearer: the walk; like. -/
import Derived.Test.YtibeoeooajelgaaF13
import Derived.Test.YtibeoeooajelgaaF9
import Derived.Test.YtibeoeooajelgaaQuiet
namespace Go.Proofs.Ytibeoeooajelgaa
open Go.RowKit
set_option linter.unusedVariables false

set_option maxRecDepth 100000 in
set_option maxHeartbeats 4000000 in
theorem like_any (d1 i1 t1 p1 u1 v1 d2 i2 t2 p2 u2 v2 : Int) (w : World) : Calls Try.prog 29 #[.agg #[.int .i64 d1, .int .i64 i1, .int .i64 t1, .int .i64 p1, .int .i64 u1, .int .i64 v1], .agg #[.int .i64 d2, .int .i64 i2, .int .i64 t2, .int .i64 p2, .int .i64 u2, .int .i64 v2]] w fun e w' => e = .returned (.bool (decide (d1 = d2 ∧ i1 = i2 ∧ t1 = t2))) ∧ Below w.heap.size w w' := by
  have hb : Below w.heap.size w ((w.alloc (.cells #[.int .i64 d1, .int .i64 i1, .int .i64 t1, .int .i64 p1, .int .i64 u1, .int .i64 v1] 25)).alloc (.cells #[.int .i64 d2, .int .i64 i2, .int .i64 t2, .int .i64 p2, .int .i64 u2, .int .i64 v2] 25)) := ((Below.refl _ _).alloc (Nat.le_refl _) _).alloc (by simp) _
  have HB := Lib.hid hb
  clear hb
  by_cases h0 : d1 = d2
  rotate_left
  · rw [show decide (d1 = d2 ∧ i1 = i2 ∧ t1 = t2) = false from decide_eq_false (fun z => h0 z.1)]
    have g0 : (d1 == d2) = false := by simpa using h0
    have e0 : decide (d1 = d2) = false := decide_eq_false h0
    clear h0
    go_enter Try.func29, Try.ntmps29
    go_wp2
    go_ret
    exact ⟨rfl, HB.out⟩
  by_cases h1 : i1 = i2
  rotate_left
  · rw [show decide (d1 = d2 ∧ i1 = i2 ∧ t1 = t2) = false from decide_eq_false (fun z => h1 z.2.1)]
    have g0 : (d1 == d2) = true := by simpa using h0
    have e0 : decide (d1 = d2) = true := decide_eq_true h0
    have g1 : (i1 == i2) = false := by simpa using h1
    have e1 : decide (i1 = i2) = false := decide_eq_false h1
    clear h0 h1
    go_enter Try.func29, Try.ntmps29
    go_wp2
    go_ret
    exact ⟨rfl, HB.out⟩
  rw [show decide (d1 = d2 ∧ i1 = i2 ∧ t1 = t2) = (t1 == t2) from by simp [h0, h1]; rfl]
  have g0 : (d1 == d2) = true := by simpa using h0
  have g1 : (i1 == i2) = true := by simpa using h1
  clear h0 h1
  go_enter Try.func29, Try.ntmps29
  go_wp2
  go_ret
  exact ⟨rfl, HB.out⟩

theorem near_irr (d1 i1 t1 p1 : Int) : ¬ NearP d1 i1 t1 p1 d1 i1 t1 p1 := by unfold NearP; omega
theorem near_tri (d1 i1 t1 p1 d2 i2 t2 p2 : Int) (h : ¬ (d1 = d2 ∧ i1 = i2 ∧ t1 = t2 ∧ p1 = p2)) : NearP d1 i1 t1 p1 d2 i2 t2 p2 ↔ ¬ NearP d2 i2 t2 p2 d1 i1 t1 p1 := by unfold NearP; omega
theorem near_trans (d1 i1 t1 p1 d2 i2 t2 p2 d3 i3 t3 p3 : Int) (h : NearP d1 i1 t1 p1 d2 i2 t2 p2) (k : NearP d2 i2 t2 p2 d3 i3 t3 p3) : NearP d1 i1 t1 p1 d3 i3 t3 p3 := by unfold NearP at *; omega

set_option maxRecDepth 100000 in
set_option maxHeartbeats 8000000 in
theorem frameNearer_walk (d1 i1 t1 p1 u1 v1 d2 i2 t2 p2 u2 v2 d3 i3 t3 p3 u3 v3 : Int) (w : World) : Calls Try.prog 5 #[.agg #[.int .i64 d1, .int .i64 i1, .int .i64 t1, .int .i64 p1, .int .i64 u1, .int .i64 v1], .agg #[.int .i64 d2, .int .i64 i2, .int .i64 t2, .int .i64 p2, .int .i64 u2, .int .i64 v2], .agg #[.int .i64 d3, .int .i64 i3, .int .i64 t3, .int .i64 p3, .int .i64 u3, .int .i64 v3]] w fun e w' => e = .returned (.bool true) ∧ Below w.heap.size w w' := by
  go_enter Try.func5, Try.ntmps5
  go_wp2_with fail
  have NE_A_B := Lib.hid (show w.heap.size ≠ w.heap.size + 1 by omega)
  have NE_A_C := Lib.hid (show w.heap.size ≠ w.heap.size + 1 + 1 by omega)
  have NE_B_C := Lib.hid (show w.heap.size + 1 ≠ w.heap.size + 1 + 1 by omega)
  have s_A : HasBlk (w.alloc (.cells #[.int .i64 d1, .int .i64 i1, .int .i64 t1, .int .i64 p1, .int .i64 u1, .int .i64 v1] 25)) (w.heap.size) 25 #[.int .i64 d1, .int .i64 i1, .int .i64 t1, .int .i64 p1, .int .i64 u1, .int .i64 v1] := by simpa using hasBlk_new w 25 #[.int .i64 d1, .int .i64 i1, .int .i64 t1, .int .i64 p1, .int .i64 u1, .int .i64 v1]
  replace s_A := s_A.alloc (.cells #[.int .i64 d2, .int .i64 i2, .int .i64 t2, .int .i64 p2, .int .i64 u2, .int .i64 v2] 25)
  have s_B : HasBlk ((w.alloc (.cells #[.int .i64 d1, .int .i64 i1, .int .i64 t1, .int .i64 p1, .int .i64 u1, .int .i64 v1] 25)).alloc (.cells #[.int .i64 d2, .int .i64 i2, .int .i64 t2, .int .i64 p2, .int .i64 u2, .int .i64 v2] 25)) (w.heap.size + 1) 25 #[.int .i64 d2, .int .i64 i2, .int .i64 t2, .int .i64 p2, .int .i64 u2, .int .i64 v2] := by simpa using hasBlk_new (w.alloc (.cells #[.int .i64 d1, .int .i64 i1, .int .i64 t1, .int .i64 p1, .int .i64 u1, .int .i64 v1] 25)) 25 #[.int .i64 d2, .int .i64 i2, .int .i64 t2, .int .i64 p2, .int .i64 u2, .int .i64 v2]
  replace s_A := s_A.alloc (.cells #[.int .i64 d3, .int .i64 i3, .int .i64 t3, .int .i64 p3, .int .i64 u3, .int .i64 v3] 25)
  replace s_B := s_B.alloc (.cells #[.int .i64 d3, .int .i64 i3, .int .i64 t3, .int .i64 p3, .int .i64 u3, .int .i64 v3] 25)
  have s_C : HasBlk (((w.alloc (.cells #[.int .i64 d1, .int .i64 i1, .int .i64 t1, .int .i64 p1, .int .i64 u1, .int .i64 v1] 25)).alloc (.cells #[.int .i64 d2, .int .i64 i2, .int .i64 t2, .int .i64 p2, .int .i64 u2, .int .i64 v2] 25)).alloc (.cells #[.int .i64 d3, .int .i64 i3, .int .i64 t3, .int .i64 p3, .int .i64 u3, .int .i64 v3] 25)) (w.heap.size + 1 + 1) 25 #[.int .i64 d3, .int .i64 i3, .int .i64 t3, .int .i64 p3, .int .i64 u3, .int .i64 v3] := by simpa using hasBlk_new ((w.alloc (.cells #[.int .i64 d1, .int .i64 i1, .int .i64 t1, .int .i64 p1, .int .i64 u1, .int .i64 v1] 25)).alloc (.cells #[.int .i64 d2, .int .i64 i2, .int .i64 t2, .int .i64 p2, .int .i64 u2, .int .i64 v2] 25)) 25 #[.int .i64 d3, .int .i64 i3, .int .i64 t3, .int .i64 p3, .int .i64 u3, .int .i64 v3]
  have t_A : HasBlk (((w.alloc (.cells #[.int .i64 d1, .int .i64 i1, .int .i64 t1, .int .i64 p1, .int .i64 u1, .int .i64 v1] 25)).alloc (.cells #[.int .i64 d2, .int .i64 i2, .int .i64 t2, .int .i64 p2, .int .i64 u2, .int .i64 v2] 25)).alloc (.cells #[.int .i64 d3, .int .i64 i3, .int .i64 t3, .int .i64 p3, .int .i64 u3, .int .i64 v3] 25)) (w.heap.size) 25 #[.int .i64 d1, .int .i64 i1, .int .i64 t1, .int .i64 p1, .int .i64 u1, .int .i64 v1] := by simpa using s_A
  clear s_A
  have t_B : HasBlk (((w.alloc (.cells #[.int .i64 d1, .int .i64 i1, .int .i64 t1, .int .i64 p1, .int .i64 u1, .int .i64 v1] 25)).alloc (.cells #[.int .i64 d2, .int .i64 i2, .int .i64 t2, .int .i64 p2, .int .i64 u2, .int .i64 v2] 25)).alloc (.cells #[.int .i64 d3, .int .i64 i3, .int .i64 t3, .int .i64 p3, .int .i64 u3, .int .i64 v3] 25)) (w.heap.size + 1) 25 #[.int .i64 d2, .int .i64 i2, .int .i64 t2, .int .i64 p2, .int .i64 u2, .int .i64 v2] := by simpa using s_B
  clear s_B
  have t_C : HasBlk (((w.alloc (.cells #[.int .i64 d1, .int .i64 i1, .int .i64 t1, .int .i64 p1, .int .i64 u1, .int .i64 v1] 25)).alloc (.cells #[.int .i64 d2, .int .i64 i2, .int .i64 t2, .int .i64 p2, .int .i64 u2, .int .i64 v2] 25)).alloc (.cells #[.int .i64 d3, .int .i64 i3, .int .i64 t3, .int .i64 p3, .int .i64 u3, .int .i64 v3] 25)) (w.heap.size + 1 + 1) 25 #[.int .i64 d3, .int .i64 i3, .int .i64 t3, .int .i64 p3, .int .i64 u3, .int .i64 v3] := by simpa using s_C
  clear s_C
  have SB1 : Below w.heap.size w (((w.alloc (.cells #[.int .i64 d1, .int .i64 i1, .int .i64 t1, .int .i64 p1, .int .i64 u1, .int .i64 v1] 25)).alloc (.cells #[.int .i64 d2, .int .i64 i2, .int .i64 t2, .int .i64 p2, .int .i64 u2, .int .i64 v2] 25)).alloc (.cells #[.int .i64 d3, .int .i64 i3, .int .i64 t3, .int .i64 p3, .int .i64 u3, .int .i64 v3] 25)) := by
    repeat' (first | exact Below.refl _ _ | assumption | apply Below.drew | refine Below.setCell ?_ (by first | omega | (simp; done) | (simp; omega)) _ | refine Below.alloc ?_ (by first | omega | (simp; done) | (simp; omega)) _)
  generalize gW_v0 : (((w.alloc (.cells #[.int .i64 d1, .int .i64 i1, .int .i64 t1, .int .i64 p1, .int .i64 u1, .int .i64 v1] 25)).alloc (.cells #[.int .i64 d2, .int .i64 i2, .int .i64 t2, .int .i64 p2, .int .i64 u2, .int .i64 v2] 25)).alloc (.cells #[.int .i64 d3, .int .i64 i3, .int .i64 t3, .int .i64 p3, .int .i64 u3, .int .i64 v3] 25)) = v0 at *
  clear gW_v0
  have A := Lib.hid t_A
  clear t_A
  have B := Lib.hid t_B
  clear t_B
  have C := Lib.hid t_C
  clear t_C
  have SB1h := Lib.hid SB1
  clear SB1
  refine (alive_any _).mono ?_
  rintro e w1 ⟨rfl, bel1⟩
  have t_A := A.out.below bel1
  clear A
  have A := Lib.hid t_A
  clear t_A
  have t_B := B.out.below bel1
  clear B
  have B := Lib.hid t_B
  clear t_B
  have t_C := C.out.below bel1
  clear C
  have C := Lib.hid t_C
  clear t_C
  have SB2 : Below w.heap.size w w1 := SB1h.out.trans (bel1.mono SB1h.out.size)
  clear SB1h
  have SB2h := Lib.hid SB2
  clear SB2 bel1
  have lt_A := A.out.lt
  have A_0 := A.out.cell 0
  have A_1 := A.out.cell 1
  have A_2 := A.out.cell 2
  have A_3 := A.out.cell 3
  have A_4 := A.out.cell 4
  have A_5 := A.out.cell 5
  simp at A_0 A_1 A_2 A_3 A_4 A_5
  have lt_B := B.out.lt
  have B_0 := B.out.cell 0
  have B_1 := B.out.cell 1
  have B_2 := B.out.cell 2
  have B_3 := B.out.cell 3
  have B_4 := B.out.cell 4
  have B_5 := B.out.cell 5
  simp at B_0 B_1 B_2 B_3 B_4 B_5
  have lt_C := C.out.lt
  have C_0 := C.out.cell 0
  have C_1 := C.out.cell 1
  have C_2 := C.out.cell 2
  have C_3 := C.out.cell 3
  have C_4 := C.out.cell 4
  have C_5 := C.out.cell 5
  simp at C_0 C_1 C_2 C_3 C_4 C_5
  have szB_w1 := SB2h.out.size
  by_cases hs : d1 = d2 ∧ i1 = i2 ∧ t1 = t2
  · have gl : decide (d1 = d2 ∧ i1 = i2 ∧ t1 = t2) = true := decide_eq_true hs
    by_cases hp : p1 = p2
    · have g0 : (p1 == p2) = true := by simpa using hp
      have hab : ¬ NearP d1 i1 t1 p1 d2 i2 t2 p2 := by unfold NearP; omega
      clear hs hp
      go_wp2_with fail
      refine (like_any d1 i1 t1 p1 u1 v1 d2 i2 t2 p2 u2 v2 _).mono ?_
      rintro e w2 ⟨rfl, bel2⟩
      have t_A := A.out.below bel2
      clear A
      have A := Lib.hid t_A
      clear t_A
      have t_B := B.out.below bel2
      clear B
      have B := Lib.hid t_B
      clear t_B
      have t_C := C.out.below bel2
      clear C
      have C := Lib.hid t_C
      clear t_C
      have SB3 : Below w.heap.size w w2 := SB2h.out.trans (bel2.mono SB2h.out.size)
      clear SB2h
      have SB3h := Lib.hid SB3
      clear SB3 bel2
      have lt_A := A.out.lt
      have A_0 := A.out.cell 0
      have A_1 := A.out.cell 1
      have A_2 := A.out.cell 2
      have A_3 := A.out.cell 3
      have A_4 := A.out.cell 4
      have A_5 := A.out.cell 5
      simp at A_0 A_1 A_2 A_3 A_4 A_5
      have lt_B := B.out.lt
      have B_0 := B.out.cell 0
      have B_1 := B.out.cell 1
      have B_2 := B.out.cell 2
      have B_3 := B.out.cell 3
      have B_4 := B.out.cell 4
      have B_5 := B.out.cell 5
      simp at B_0 B_1 B_2 B_3 B_4 B_5
      have lt_C := C.out.lt
      have C_0 := C.out.cell 0
      have C_1 := C.out.cell 1
      have C_2 := C.out.cell 2
      have C_3 := C.out.cell 3
      have C_4 := C.out.cell 4
      have C_5 := C.out.cell 5
      simp at C_0 C_1 C_2 C_3 C_4 C_5
      have szB_w2 := SB3h.out.size
      have kaa := fun b : BW w2 => BW.call (v := .bool (decide (NearP d1 i1 t1 p1 d1 i1 t1 p1))) (fun W' (h : Below w2.heap.size w2 W') => nearer_any d1 i1 t1 p1 u1 v1 d1 i1 t1 p1 u1 v1 W') b
      rw [decide_eq_false (near_irr d1 i1 t1 p1)] at kaa
      have kaa := Lib.hid kaa
      have kab := fun b : BW w2 => BW.call (v := .bool (decide (NearP d1 i1 t1 p1 d2 i2 t2 p2))) (fun W' (h : Below w2.heap.size w2 W') => nearer_any d1 i1 t1 p1 u1 v1 d2 i2 t2 p2 u2 v2 W') b
      rw [decide_eq_false hab] at kab
      have kab := Lib.hid kab
      go_wp2_with fail
      have p_A_0 := fun b : BW w2 => BW.cell A_0 lt_A b
      have p_A_1 := fun b : BW w2 => BW.cell A_1 lt_A b
      have p_A_2 := fun b : BW w2 => BW.cell A_2 lt_A b
      have p_A_3 := fun b : BW w2 => BW.cell A_3 lt_A b
      have p_A_4 := fun b : BW w2 => BW.cell A_4 lt_A b
      have p_A_5 := fun b : BW w2 => BW.cell A_5 lt_A b
      have p_B_0 := fun b : BW w2 => BW.cell B_0 lt_B b
      have p_B_1 := fun b : BW w2 => BW.cell B_1 lt_B b
      have p_B_2 := fun b : BW w2 => BW.cell B_2 lt_B b
      have p_B_3 := fun b : BW w2 => BW.cell B_3 lt_B b
      have p_B_4 := fun b : BW w2 => BW.cell B_4 lt_B b
      have p_B_5 := fun b : BW w2 => BW.cell B_5 lt_B b
      have p_C_0 := fun b : BW w2 => BW.cell C_0 lt_C b
      have p_C_1 := fun b : BW w2 => BW.cell C_1 lt_C b
      have p_C_2 := fun b : BW w2 => BW.cell C_2 lt_C b
      have p_C_3 := fun b : BW w2 => BW.cell C_3 lt_C b
      have p_C_4 := fun b : BW w2 => BW.cell C_4 lt_C b
      have p_C_5 := fun b : BW w2 => BW.cell C_5 lt_C b
      clear lt_A A_0 A_1 A_2 A_3 A_4 A_5 lt_B B_0 B_1 B_2 B_3 B_4 B_5 lt_C C_0 C_1 C_2 C_3 C_4 C_5
      refine wp_region_quiet_bw (by kernel_rfl) (by kernel_rfl) ?_
      repeat (go_big_quiet_step ((first | (go_at_call 16; with_reducible exact kaa.out _) | (go_at_call 16; with_reducible exact kab.out _))))
      refine wpQuiet_nil ?_
      intro _ hw'
      obtain ⟨pq, hw''⟩ := hw'
      subst hw''
      go_wp2_with (first | (go_at_call 16; (with_reducible refine (kab.out _).mono ?_); rintro e w' ⟨rfl, bab, rfl⟩))
      have HZ := SB3h.out
      go_ret
      exact ⟨rfl, HZ.trans ((BW.h _).mono HZ.size)⟩
    · have g0 : (p1 == p2) = false := by simpa using hp
      have g1 : decide (p1 = p2) = false := decide_eq_false hp
      have hne : ¬ (d1 = d2 ∧ i1 = i2 ∧ t1 = t2 ∧ p1 = p2) := fun z => hp z.2.2.2
      clear hp hs
      by_cases hab : NearP d1 i1 t1 p1 d2 i2 t2 p2
      · by_cases hbc : NearP d2 i2 t2 p2 d3 i3 t3 p3
        · go_wp2_with fail
          refine (like_any d1 i1 t1 p1 u1 v1 d2 i2 t2 p2 u2 v2 _).mono ?_
          rintro e w2 ⟨rfl, bel2⟩
          have t_A := A.out.below bel2
          clear A
          have A := Lib.hid t_A
          clear t_A
          have t_B := B.out.below bel2
          clear B
          have B := Lib.hid t_B
          clear t_B
          have t_C := C.out.below bel2
          clear C
          have C := Lib.hid t_C
          clear t_C
          have SB3 : Below w.heap.size w w2 := SB2h.out.trans (bel2.mono SB2h.out.size)
          clear SB2h
          have SB3h := Lib.hid SB3
          clear SB3 bel2
          have lt_A := A.out.lt
          have A_0 := A.out.cell 0
          have A_1 := A.out.cell 1
          have A_2 := A.out.cell 2
          have A_3 := A.out.cell 3
          have A_4 := A.out.cell 4
          have A_5 := A.out.cell 5
          simp at A_0 A_1 A_2 A_3 A_4 A_5
          have lt_B := B.out.lt
          have B_0 := B.out.cell 0
          have B_1 := B.out.cell 1
          have B_2 := B.out.cell 2
          have B_3 := B.out.cell 3
          have B_4 := B.out.cell 4
          have B_5 := B.out.cell 5
          simp at B_0 B_1 B_2 B_3 B_4 B_5
          have lt_C := C.out.lt
          have C_0 := C.out.cell 0
          have C_1 := C.out.cell 1
          have C_2 := C.out.cell 2
          have C_3 := C.out.cell 3
          have C_4 := C.out.cell 4
          have C_5 := C.out.cell 5
          simp at C_0 C_1 C_2 C_3 C_4 C_5
          have szB_w2 := SB3h.out.size
          have kaa := fun b : BW w2 => BW.call (v := .bool (decide (NearP d1 i1 t1 p1 d1 i1 t1 p1))) (fun W' (h : Below w2.heap.size w2 W') => nearer_any d1 i1 t1 p1 u1 v1 d1 i1 t1 p1 u1 v1 W') b
          rw [decide_eq_false (near_irr d1 i1 t1 p1)] at kaa
          have kaa := Lib.hid kaa
          have kab := fun b : BW w2 => BW.call (v := .bool (decide (NearP d1 i1 t1 p1 d2 i2 t2 p2))) (fun W' (h : Below w2.heap.size w2 W') => nearer_any d1 i1 t1 p1 u1 v1 d2 i2 t2 p2 u2 v2 W') b
          rw [decide_eq_true hab] at kab
          have kab := Lib.hid kab
          have kba := fun b : BW w2 => BW.call (v := .bool (decide (NearP d2 i2 t2 p2 d1 i1 t1 p1))) (fun W' (h : Below w2.heap.size w2 W') => nearer_any d2 i2 t2 p2 u2 v2 d1 i1 t1 p1 u1 v1 W') b
          rw [decide_eq_false (fun z => ((near_tri d1 i1 t1 p1 d2 i2 t2 p2 hne).1 hab) z)] at kba
          have kba := Lib.hid kba
          have kbc := fun b : BW w2 => BW.call (v := .bool (decide (NearP d2 i2 t2 p2 d3 i3 t3 p3))) (fun W' (h : Below w2.heap.size w2 W') => nearer_any d2 i2 t2 p2 u2 v2 d3 i3 t3 p3 u3 v3 W') b
          rw [decide_eq_true hbc] at kbc
          have kbc := Lib.hid kbc
          have kac := fun b : BW w2 => BW.call (v := .bool (decide (NearP d1 i1 t1 p1 d3 i3 t3 p3))) (fun W' (h : Below w2.heap.size w2 W') => nearer_any d1 i1 t1 p1 u1 v1 d3 i3 t3 p3 u3 v3 W') b
          rw [decide_eq_true (near_trans _ _ _ _ _ _ _ _ _ _ _ _ hab hbc)] at kac
          have kac := Lib.hid kac
          go_wp2_with fail
          have p_A_0 := fun b : BW w2 => BW.cell A_0 lt_A b
          have p_A_1 := fun b : BW w2 => BW.cell A_1 lt_A b
          have p_A_2 := fun b : BW w2 => BW.cell A_2 lt_A b
          have p_A_3 := fun b : BW w2 => BW.cell A_3 lt_A b
          have p_A_4 := fun b : BW w2 => BW.cell A_4 lt_A b
          have p_A_5 := fun b : BW w2 => BW.cell A_5 lt_A b
          have p_B_0 := fun b : BW w2 => BW.cell B_0 lt_B b
          have p_B_1 := fun b : BW w2 => BW.cell B_1 lt_B b
          have p_B_2 := fun b : BW w2 => BW.cell B_2 lt_B b
          have p_B_3 := fun b : BW w2 => BW.cell B_3 lt_B b
          have p_B_4 := fun b : BW w2 => BW.cell B_4 lt_B b
          have p_B_5 := fun b : BW w2 => BW.cell B_5 lt_B b
          have p_C_0 := fun b : BW w2 => BW.cell C_0 lt_C b
          have p_C_1 := fun b : BW w2 => BW.cell C_1 lt_C b
          have p_C_2 := fun b : BW w2 => BW.cell C_2 lt_C b
          have p_C_3 := fun b : BW w2 => BW.cell C_3 lt_C b
          have p_C_4 := fun b : BW w2 => BW.cell C_4 lt_C b
          have p_C_5 := fun b : BW w2 => BW.cell C_5 lt_C b
          clear lt_A A_0 A_1 A_2 A_3 A_4 A_5 lt_B B_0 B_1 B_2 B_3 B_4 B_5 lt_C C_0 C_1 C_2 C_3 C_4 C_5
          refine wp_region_quiet_bw (by kernel_rfl) (by kernel_rfl) ?_
          repeat (go_big_quiet_step ((first | (go_at_call 16; with_reducible exact kaa.out _) | (go_at_call 16; with_reducible exact kab.out _) | (go_at_call 16; with_reducible exact kba.out _))))
          refine wpQuiet_nil ?_
          intro _ hw'
          obtain ⟨pq, hw''⟩ := hw'
          subst hw''
          go_wp2_with (first | (go_at_call 16; (with_reducible refine (kab.out _).mono ?_); rintro e w' ⟨rfl, bab, rfl⟩) | (go_at_call 16; (with_reducible refine (kbc.out _).mono ?_); rintro e w' ⟨rfl, bbc, rfl⟩) | (go_at_call 16; (with_reducible refine (kac.out _).mono ?_); rintro e w' ⟨rfl, bac, rfl⟩))
          have HZ := SB3h.out
          go_ret
          exact ⟨rfl, HZ.trans ((BW.h _).mono HZ.size)⟩
        · go_wp2_with fail
          refine (like_any d1 i1 t1 p1 u1 v1 d2 i2 t2 p2 u2 v2 _).mono ?_
          rintro e w2 ⟨rfl, bel2⟩
          have t_A := A.out.below bel2
          clear A
          have A := Lib.hid t_A
          clear t_A
          have t_B := B.out.below bel2
          clear B
          have B := Lib.hid t_B
          clear t_B
          have t_C := C.out.below bel2
          clear C
          have C := Lib.hid t_C
          clear t_C
          have SB3 : Below w.heap.size w w2 := SB2h.out.trans (bel2.mono SB2h.out.size)
          clear SB2h
          have SB3h := Lib.hid SB3
          clear SB3 bel2
          have lt_A := A.out.lt
          have A_0 := A.out.cell 0
          have A_1 := A.out.cell 1
          have A_2 := A.out.cell 2
          have A_3 := A.out.cell 3
          have A_4 := A.out.cell 4
          have A_5 := A.out.cell 5
          simp at A_0 A_1 A_2 A_3 A_4 A_5
          have lt_B := B.out.lt
          have B_0 := B.out.cell 0
          have B_1 := B.out.cell 1
          have B_2 := B.out.cell 2
          have B_3 := B.out.cell 3
          have B_4 := B.out.cell 4
          have B_5 := B.out.cell 5
          simp at B_0 B_1 B_2 B_3 B_4 B_5
          have lt_C := C.out.lt
          have C_0 := C.out.cell 0
          have C_1 := C.out.cell 1
          have C_2 := C.out.cell 2
          have C_3 := C.out.cell 3
          have C_4 := C.out.cell 4
          have C_5 := C.out.cell 5
          simp at C_0 C_1 C_2 C_3 C_4 C_5
          have szB_w2 := SB3h.out.size
          have kaa := fun b : BW w2 => BW.call (v := .bool (decide (NearP d1 i1 t1 p1 d1 i1 t1 p1))) (fun W' (h : Below w2.heap.size w2 W') => nearer_any d1 i1 t1 p1 u1 v1 d1 i1 t1 p1 u1 v1 W') b
          rw [decide_eq_false (near_irr d1 i1 t1 p1)] at kaa
          have kaa := Lib.hid kaa
          have kab := fun b : BW w2 => BW.call (v := .bool (decide (NearP d1 i1 t1 p1 d2 i2 t2 p2))) (fun W' (h : Below w2.heap.size w2 W') => nearer_any d1 i1 t1 p1 u1 v1 d2 i2 t2 p2 u2 v2 W') b
          rw [decide_eq_true hab] at kab
          have kab := Lib.hid kab
          have kba := fun b : BW w2 => BW.call (v := .bool (decide (NearP d2 i2 t2 p2 d1 i1 t1 p1))) (fun W' (h : Below w2.heap.size w2 W') => nearer_any d2 i2 t2 p2 u2 v2 d1 i1 t1 p1 u1 v1 W') b
          rw [decide_eq_false (fun z => ((near_tri d1 i1 t1 p1 d2 i2 t2 p2 hne).1 hab) z)] at kba
          have kba := Lib.hid kba
          have kbc := fun b : BW w2 => BW.call (v := .bool (decide (NearP d2 i2 t2 p2 d3 i3 t3 p3))) (fun W' (h : Below w2.heap.size w2 W') => nearer_any d2 i2 t2 p2 u2 v2 d3 i3 t3 p3 u3 v3 W') b
          rw [decide_eq_false hbc] at kbc
          have kbc := Lib.hid kbc
          go_wp2_with fail
          have p_A_0 := fun b : BW w2 => BW.cell A_0 lt_A b
          have p_A_1 := fun b : BW w2 => BW.cell A_1 lt_A b
          have p_A_2 := fun b : BW w2 => BW.cell A_2 lt_A b
          have p_A_3 := fun b : BW w2 => BW.cell A_3 lt_A b
          have p_A_4 := fun b : BW w2 => BW.cell A_4 lt_A b
          have p_A_5 := fun b : BW w2 => BW.cell A_5 lt_A b
          have p_B_0 := fun b : BW w2 => BW.cell B_0 lt_B b
          have p_B_1 := fun b : BW w2 => BW.cell B_1 lt_B b
          have p_B_2 := fun b : BW w2 => BW.cell B_2 lt_B b
          have p_B_3 := fun b : BW w2 => BW.cell B_3 lt_B b
          have p_B_4 := fun b : BW w2 => BW.cell B_4 lt_B b
          have p_B_5 := fun b : BW w2 => BW.cell B_5 lt_B b
          have p_C_0 := fun b : BW w2 => BW.cell C_0 lt_C b
          have p_C_1 := fun b : BW w2 => BW.cell C_1 lt_C b
          have p_C_2 := fun b : BW w2 => BW.cell C_2 lt_C b
          have p_C_3 := fun b : BW w2 => BW.cell C_3 lt_C b
          have p_C_4 := fun b : BW w2 => BW.cell C_4 lt_C b
          have p_C_5 := fun b : BW w2 => BW.cell C_5 lt_C b
          clear lt_A A_0 A_1 A_2 A_3 A_4 A_5 lt_B B_0 B_1 B_2 B_3 B_4 B_5 lt_C C_0 C_1 C_2 C_3 C_4 C_5
          refine wp_region_quiet_bw (by kernel_rfl) (by kernel_rfl) ?_
          repeat (go_big_quiet_step ((first | (go_at_call 16; with_reducible exact kaa.out _) | (go_at_call 16; with_reducible exact kab.out _) | (go_at_call 16; with_reducible exact kba.out _))))
          refine wpQuiet_nil ?_
          intro _ hw'
          obtain ⟨pq, hw''⟩ := hw'
          subst hw''
          go_wp2_with (first | (go_at_call 16; (with_reducible refine (kab.out _).mono ?_); rintro e w' ⟨rfl, bab, rfl⟩) | (go_at_call 16; (with_reducible refine (kbc.out _).mono ?_); rintro e w' ⟨rfl, bbc, rfl⟩))
          have HZ := SB3h.out
          go_ret
          exact ⟨rfl, HZ.trans ((BW.h _).mono HZ.size)⟩
      · go_wp2_with fail
        refine (like_any d1 i1 t1 p1 u1 v1 d2 i2 t2 p2 u2 v2 _).mono ?_
        rintro e w2 ⟨rfl, bel2⟩
        have t_A := A.out.below bel2
        clear A
        have A := Lib.hid t_A
        clear t_A
        have t_B := B.out.below bel2
        clear B
        have B := Lib.hid t_B
        clear t_B
        have t_C := C.out.below bel2
        clear C
        have C := Lib.hid t_C
        clear t_C
        have SB3 : Below w.heap.size w w2 := SB2h.out.trans (bel2.mono SB2h.out.size)
        clear SB2h
        have SB3h := Lib.hid SB3
        clear SB3 bel2
        have lt_A := A.out.lt
        have A_0 := A.out.cell 0
        have A_1 := A.out.cell 1
        have A_2 := A.out.cell 2
        have A_3 := A.out.cell 3
        have A_4 := A.out.cell 4
        have A_5 := A.out.cell 5
        simp at A_0 A_1 A_2 A_3 A_4 A_5
        have lt_B := B.out.lt
        have B_0 := B.out.cell 0
        have B_1 := B.out.cell 1
        have B_2 := B.out.cell 2
        have B_3 := B.out.cell 3
        have B_4 := B.out.cell 4
        have B_5 := B.out.cell 5
        simp at B_0 B_1 B_2 B_3 B_4 B_5
        have lt_C := C.out.lt
        have C_0 := C.out.cell 0
        have C_1 := C.out.cell 1
        have C_2 := C.out.cell 2
        have C_3 := C.out.cell 3
        have C_4 := C.out.cell 4
        have C_5 := C.out.cell 5
        simp at C_0 C_1 C_2 C_3 C_4 C_5
        have szB_w2 := SB3h.out.size
        have kaa := fun b : BW w2 => BW.call (v := .bool (decide (NearP d1 i1 t1 p1 d1 i1 t1 p1))) (fun W' (h : Below w2.heap.size w2 W') => nearer_any d1 i1 t1 p1 u1 v1 d1 i1 t1 p1 u1 v1 W') b
        rw [decide_eq_false (near_irr d1 i1 t1 p1)] at kaa
        have kaa := Lib.hid kaa
        have kab := fun b : BW w2 => BW.call (v := .bool (decide (NearP d1 i1 t1 p1 d2 i2 t2 p2))) (fun W' (h : Below w2.heap.size w2 W') => nearer_any d1 i1 t1 p1 u1 v1 d2 i2 t2 p2 u2 v2 W') b
        rw [decide_eq_false hab] at kab
        have kab := Lib.hid kab
        have kba := fun b : BW w2 => BW.call (v := .bool (decide (NearP d2 i2 t2 p2 d1 i1 t1 p1))) (fun W' (h : Below w2.heap.size w2 W') => nearer_any d2 i2 t2 p2 u2 v2 d1 i1 t1 p1 u1 v1 W') b
        rw [decide_eq_true (by have z := near_tri d1 i1 t1 p1 d2 i2 t2 p2 hne; by_cases y : NearP d2 i2 t2 p2 d1 i1 t1 p1; exact y; exact absurd (z.2 y) hab)] at kba
        have kba := Lib.hid kba
        go_wp2_with fail
        have p_A_0 := fun b : BW w2 => BW.cell A_0 lt_A b
        have p_A_1 := fun b : BW w2 => BW.cell A_1 lt_A b
        have p_A_2 := fun b : BW w2 => BW.cell A_2 lt_A b
        have p_A_3 := fun b : BW w2 => BW.cell A_3 lt_A b
        have p_A_4 := fun b : BW w2 => BW.cell A_4 lt_A b
        have p_A_5 := fun b : BW w2 => BW.cell A_5 lt_A b
        have p_B_0 := fun b : BW w2 => BW.cell B_0 lt_B b
        have p_B_1 := fun b : BW w2 => BW.cell B_1 lt_B b
        have p_B_2 := fun b : BW w2 => BW.cell B_2 lt_B b
        have p_B_3 := fun b : BW w2 => BW.cell B_3 lt_B b
        have p_B_4 := fun b : BW w2 => BW.cell B_4 lt_B b
        have p_B_5 := fun b : BW w2 => BW.cell B_5 lt_B b
        have p_C_0 := fun b : BW w2 => BW.cell C_0 lt_C b
        have p_C_1 := fun b : BW w2 => BW.cell C_1 lt_C b
        have p_C_2 := fun b : BW w2 => BW.cell C_2 lt_C b
        have p_C_3 := fun b : BW w2 => BW.cell C_3 lt_C b
        have p_C_4 := fun b : BW w2 => BW.cell C_4 lt_C b
        have p_C_5 := fun b : BW w2 => BW.cell C_5 lt_C b
        clear lt_A A_0 A_1 A_2 A_3 A_4 A_5 lt_B B_0 B_1 B_2 B_3 B_4 B_5 lt_C C_0 C_1 C_2 C_3 C_4 C_5
        refine wp_region_quiet_bw (by kernel_rfl) (by kernel_rfl) ?_
        repeat (go_big_quiet_step ((first | (go_at_call 16; with_reducible exact kaa.out _) | (go_at_call 16; with_reducible exact kab.out _) | (go_at_call 16; with_reducible exact kba.out _))))
        refine wpQuiet_nil ?_
        intro _ hw'
        obtain ⟨pq, hw''⟩ := hw'
        subst hw''
        go_wp2_with (first | (go_at_call 16; (with_reducible refine (kab.out _).mono ?_); rintro e w' ⟨rfl, bab, rfl⟩))
        have HZ := SB3h.out
        go_ret
        exact ⟨rfl, HZ.trans ((BW.h _).mono HZ.size)⟩
  · have gl : decide (d1 = d2 ∧ i1 = i2 ∧ t1 = t2) = false := decide_eq_false hs
    have hne : ¬ (d1 = d2 ∧ i1 = i2 ∧ t1 = t2 ∧ p1 = p2) := fun z => hs ⟨z.1, z.2.1, z.2.2.1⟩
    clear hs
    by_cases hab : NearP d1 i1 t1 p1 d2 i2 t2 p2
    · by_cases hbc : NearP d2 i2 t2 p2 d3 i3 t3 p3
      · go_wp2_with fail
        refine (like_any d1 i1 t1 p1 u1 v1 d2 i2 t2 p2 u2 v2 _).mono ?_
        rintro e w2 ⟨rfl, bel2⟩
        have t_A := A.out.below bel2
        clear A
        have A := Lib.hid t_A
        clear t_A
        have t_B := B.out.below bel2
        clear B
        have B := Lib.hid t_B
        clear t_B
        have t_C := C.out.below bel2
        clear C
        have C := Lib.hid t_C
        clear t_C
        have SB3 : Below w.heap.size w w2 := SB2h.out.trans (bel2.mono SB2h.out.size)
        clear SB2h
        have SB3h := Lib.hid SB3
        clear SB3 bel2
        have lt_A := A.out.lt
        have A_0 := A.out.cell 0
        have A_1 := A.out.cell 1
        have A_2 := A.out.cell 2
        have A_3 := A.out.cell 3
        have A_4 := A.out.cell 4
        have A_5 := A.out.cell 5
        simp at A_0 A_1 A_2 A_3 A_4 A_5
        have lt_B := B.out.lt
        have B_0 := B.out.cell 0
        have B_1 := B.out.cell 1
        have B_2 := B.out.cell 2
        have B_3 := B.out.cell 3
        have B_4 := B.out.cell 4
        have B_5 := B.out.cell 5
        simp at B_0 B_1 B_2 B_3 B_4 B_5
        have lt_C := C.out.lt
        have C_0 := C.out.cell 0
        have C_1 := C.out.cell 1
        have C_2 := C.out.cell 2
        have C_3 := C.out.cell 3
        have C_4 := C.out.cell 4
        have C_5 := C.out.cell 5
        simp at C_0 C_1 C_2 C_3 C_4 C_5
        have szB_w2 := SB3h.out.size
        have kaa := fun b : BW w2 => BW.call (v := .bool (decide (NearP d1 i1 t1 p1 d1 i1 t1 p1))) (fun W' (h : Below w2.heap.size w2 W') => nearer_any d1 i1 t1 p1 u1 v1 d1 i1 t1 p1 u1 v1 W') b
        rw [decide_eq_false (near_irr d1 i1 t1 p1)] at kaa
        have kaa := Lib.hid kaa
        have kab := fun b : BW w2 => BW.call (v := .bool (decide (NearP d1 i1 t1 p1 d2 i2 t2 p2))) (fun W' (h : Below w2.heap.size w2 W') => nearer_any d1 i1 t1 p1 u1 v1 d2 i2 t2 p2 u2 v2 W') b
        rw [decide_eq_true hab] at kab
        have kab := Lib.hid kab
        have kba := fun b : BW w2 => BW.call (v := .bool (decide (NearP d2 i2 t2 p2 d1 i1 t1 p1))) (fun W' (h : Below w2.heap.size w2 W') => nearer_any d2 i2 t2 p2 u2 v2 d1 i1 t1 p1 u1 v1 W') b
        rw [decide_eq_false (fun z => ((near_tri d1 i1 t1 p1 d2 i2 t2 p2 hne).1 hab) z)] at kba
        have kba := Lib.hid kba
        have kbc := fun b : BW w2 => BW.call (v := .bool (decide (NearP d2 i2 t2 p2 d3 i3 t3 p3))) (fun W' (h : Below w2.heap.size w2 W') => nearer_any d2 i2 t2 p2 u2 v2 d3 i3 t3 p3 u3 v3 W') b
        rw [decide_eq_true hbc] at kbc
        have kbc := Lib.hid kbc
        have kac := fun b : BW w2 => BW.call (v := .bool (decide (NearP d1 i1 t1 p1 d3 i3 t3 p3))) (fun W' (h : Below w2.heap.size w2 W') => nearer_any d1 i1 t1 p1 u1 v1 d3 i3 t3 p3 u3 v3 W') b
        rw [decide_eq_true (near_trans _ _ _ _ _ _ _ _ _ _ _ _ hab hbc)] at kac
        have kac := Lib.hid kac
        go_wp2_with fail
        have p_A_0 := fun b : BW w2 => BW.cell A_0 lt_A b
        have p_A_1 := fun b : BW w2 => BW.cell A_1 lt_A b
        have p_A_2 := fun b : BW w2 => BW.cell A_2 lt_A b
        have p_A_3 := fun b : BW w2 => BW.cell A_3 lt_A b
        have p_A_4 := fun b : BW w2 => BW.cell A_4 lt_A b
        have p_A_5 := fun b : BW w2 => BW.cell A_5 lt_A b
        have p_B_0 := fun b : BW w2 => BW.cell B_0 lt_B b
        have p_B_1 := fun b : BW w2 => BW.cell B_1 lt_B b
        have p_B_2 := fun b : BW w2 => BW.cell B_2 lt_B b
        have p_B_3 := fun b : BW w2 => BW.cell B_3 lt_B b
        have p_B_4 := fun b : BW w2 => BW.cell B_4 lt_B b
        have p_B_5 := fun b : BW w2 => BW.cell B_5 lt_B b
        have p_C_0 := fun b : BW w2 => BW.cell C_0 lt_C b
        have p_C_1 := fun b : BW w2 => BW.cell C_1 lt_C b
        have p_C_2 := fun b : BW w2 => BW.cell C_2 lt_C b
        have p_C_3 := fun b : BW w2 => BW.cell C_3 lt_C b
        have p_C_4 := fun b : BW w2 => BW.cell C_4 lt_C b
        have p_C_5 := fun b : BW w2 => BW.cell C_5 lt_C b
        clear lt_A A_0 A_1 A_2 A_3 A_4 A_5 lt_B B_0 B_1 B_2 B_3 B_4 B_5 lt_C C_0 C_1 C_2 C_3 C_4 C_5
        refine wp_region_quiet_bw (by kernel_rfl) (by kernel_rfl) ?_
        repeat (go_big_quiet_step ((first | (go_at_call 16; with_reducible exact kaa.out _) | (go_at_call 16; with_reducible exact kab.out _) | (go_at_call 16; with_reducible exact kba.out _))))
        refine wpQuiet_nil ?_
        intro _ hw'
        obtain ⟨pq, hw''⟩ := hw'
        subst hw''
        go_wp2_with (first | (go_at_call 16; (with_reducible refine (kab.out _).mono ?_); rintro e w' ⟨rfl, bab, rfl⟩) | (go_at_call 16; (with_reducible refine (kbc.out _).mono ?_); rintro e w' ⟨rfl, bbc, rfl⟩) | (go_at_call 16; (with_reducible refine (kac.out _).mono ?_); rintro e w' ⟨rfl, bac, rfl⟩))
        have HZ := SB3h.out
        go_ret
        exact ⟨rfl, HZ.trans ((BW.h _).mono HZ.size)⟩
      · go_wp2_with fail
        refine (like_any d1 i1 t1 p1 u1 v1 d2 i2 t2 p2 u2 v2 _).mono ?_
        rintro e w2 ⟨rfl, bel2⟩
        have t_A := A.out.below bel2
        clear A
        have A := Lib.hid t_A
        clear t_A
        have t_B := B.out.below bel2
        clear B
        have B := Lib.hid t_B
        clear t_B
        have t_C := C.out.below bel2
        clear C
        have C := Lib.hid t_C
        clear t_C
        have SB3 : Below w.heap.size w w2 := SB2h.out.trans (bel2.mono SB2h.out.size)
        clear SB2h
        have SB3h := Lib.hid SB3
        clear SB3 bel2
        have lt_A := A.out.lt
        have A_0 := A.out.cell 0
        have A_1 := A.out.cell 1
        have A_2 := A.out.cell 2
        have A_3 := A.out.cell 3
        have A_4 := A.out.cell 4
        have A_5 := A.out.cell 5
        simp at A_0 A_1 A_2 A_3 A_4 A_5
        have lt_B := B.out.lt
        have B_0 := B.out.cell 0
        have B_1 := B.out.cell 1
        have B_2 := B.out.cell 2
        have B_3 := B.out.cell 3
        have B_4 := B.out.cell 4
        have B_5 := B.out.cell 5
        simp at B_0 B_1 B_2 B_3 B_4 B_5
        have lt_C := C.out.lt
        have C_0 := C.out.cell 0
        have C_1 := C.out.cell 1
        have C_2 := C.out.cell 2
        have C_3 := C.out.cell 3
        have C_4 := C.out.cell 4
        have C_5 := C.out.cell 5
        simp at C_0 C_1 C_2 C_3 C_4 C_5
        have szB_w2 := SB3h.out.size
        have kaa := fun b : BW w2 => BW.call (v := .bool (decide (NearP d1 i1 t1 p1 d1 i1 t1 p1))) (fun W' (h : Below w2.heap.size w2 W') => nearer_any d1 i1 t1 p1 u1 v1 d1 i1 t1 p1 u1 v1 W') b
        rw [decide_eq_false (near_irr d1 i1 t1 p1)] at kaa
        have kaa := Lib.hid kaa
        have kab := fun b : BW w2 => BW.call (v := .bool (decide (NearP d1 i1 t1 p1 d2 i2 t2 p2))) (fun W' (h : Below w2.heap.size w2 W') => nearer_any d1 i1 t1 p1 u1 v1 d2 i2 t2 p2 u2 v2 W') b
        rw [decide_eq_true hab] at kab
        have kab := Lib.hid kab
        have kba := fun b : BW w2 => BW.call (v := .bool (decide (NearP d2 i2 t2 p2 d1 i1 t1 p1))) (fun W' (h : Below w2.heap.size w2 W') => nearer_any d2 i2 t2 p2 u2 v2 d1 i1 t1 p1 u1 v1 W') b
        rw [decide_eq_false (fun z => ((near_tri d1 i1 t1 p1 d2 i2 t2 p2 hne).1 hab) z)] at kba
        have kba := Lib.hid kba
        have kbc := fun b : BW w2 => BW.call (v := .bool (decide (NearP d2 i2 t2 p2 d3 i3 t3 p3))) (fun W' (h : Below w2.heap.size w2 W') => nearer_any d2 i2 t2 p2 u2 v2 d3 i3 t3 p3 u3 v3 W') b
        rw [decide_eq_false hbc] at kbc
        have kbc := Lib.hid kbc
        go_wp2_with fail
        have p_A_0 := fun b : BW w2 => BW.cell A_0 lt_A b
        have p_A_1 := fun b : BW w2 => BW.cell A_1 lt_A b
        have p_A_2 := fun b : BW w2 => BW.cell A_2 lt_A b
        have p_A_3 := fun b : BW w2 => BW.cell A_3 lt_A b
        have p_A_4 := fun b : BW w2 => BW.cell A_4 lt_A b
        have p_A_5 := fun b : BW w2 => BW.cell A_5 lt_A b
        have p_B_0 := fun b : BW w2 => BW.cell B_0 lt_B b
        have p_B_1 := fun b : BW w2 => BW.cell B_1 lt_B b
        have p_B_2 := fun b : BW w2 => BW.cell B_2 lt_B b
        have p_B_3 := fun b : BW w2 => BW.cell B_3 lt_B b
        have p_B_4 := fun b : BW w2 => BW.cell B_4 lt_B b
        have p_B_5 := fun b : BW w2 => BW.cell B_5 lt_B b
        have p_C_0 := fun b : BW w2 => BW.cell C_0 lt_C b
        have p_C_1 := fun b : BW w2 => BW.cell C_1 lt_C b
        have p_C_2 := fun b : BW w2 => BW.cell C_2 lt_C b
        have p_C_3 := fun b : BW w2 => BW.cell C_3 lt_C b
        have p_C_4 := fun b : BW w2 => BW.cell C_4 lt_C b
        have p_C_5 := fun b : BW w2 => BW.cell C_5 lt_C b
        clear lt_A A_0 A_1 A_2 A_3 A_4 A_5 lt_B B_0 B_1 B_2 B_3 B_4 B_5 lt_C C_0 C_1 C_2 C_3 C_4 C_5
        refine wp_region_quiet_bw (by kernel_rfl) (by kernel_rfl) ?_
        repeat (go_big_quiet_step ((first | (go_at_call 16; with_reducible exact kaa.out _) | (go_at_call 16; with_reducible exact kab.out _) | (go_at_call 16; with_reducible exact kba.out _))))
        refine wpQuiet_nil ?_
        intro _ hw'
        obtain ⟨pq, hw''⟩ := hw'
        subst hw''
        go_wp2_with (first | (go_at_call 16; (with_reducible refine (kab.out _).mono ?_); rintro e w' ⟨rfl, bab, rfl⟩) | (go_at_call 16; (with_reducible refine (kbc.out _).mono ?_); rintro e w' ⟨rfl, bbc, rfl⟩))
        have HZ := SB3h.out
        go_ret
        exact ⟨rfl, HZ.trans ((BW.h _).mono HZ.size)⟩
    · go_wp2_with fail
      refine (like_any d1 i1 t1 p1 u1 v1 d2 i2 t2 p2 u2 v2 _).mono ?_
      rintro e w2 ⟨rfl, bel2⟩
      have t_A := A.out.below bel2
      clear A
      have A := Lib.hid t_A
      clear t_A
      have t_B := B.out.below bel2
      clear B
      have B := Lib.hid t_B
      clear t_B
      have t_C := C.out.below bel2
      clear C
      have C := Lib.hid t_C
      clear t_C
      have SB3 : Below w.heap.size w w2 := SB2h.out.trans (bel2.mono SB2h.out.size)
      clear SB2h
      have SB3h := Lib.hid SB3
      clear SB3 bel2
      have lt_A := A.out.lt
      have A_0 := A.out.cell 0
      have A_1 := A.out.cell 1
      have A_2 := A.out.cell 2
      have A_3 := A.out.cell 3
      have A_4 := A.out.cell 4
      have A_5 := A.out.cell 5
      simp at A_0 A_1 A_2 A_3 A_4 A_5
      have lt_B := B.out.lt
      have B_0 := B.out.cell 0
      have B_1 := B.out.cell 1
      have B_2 := B.out.cell 2
      have B_3 := B.out.cell 3
      have B_4 := B.out.cell 4
      have B_5 := B.out.cell 5
      simp at B_0 B_1 B_2 B_3 B_4 B_5
      have lt_C := C.out.lt
      have C_0 := C.out.cell 0
      have C_1 := C.out.cell 1
      have C_2 := C.out.cell 2
      have C_3 := C.out.cell 3
      have C_4 := C.out.cell 4
      have C_5 := C.out.cell 5
      simp at C_0 C_1 C_2 C_3 C_4 C_5
      have szB_w2 := SB3h.out.size
      have kaa := fun b : BW w2 => BW.call (v := .bool (decide (NearP d1 i1 t1 p1 d1 i1 t1 p1))) (fun W' (h : Below w2.heap.size w2 W') => nearer_any d1 i1 t1 p1 u1 v1 d1 i1 t1 p1 u1 v1 W') b
      rw [decide_eq_false (near_irr d1 i1 t1 p1)] at kaa
      have kaa := Lib.hid kaa
      have kab := fun b : BW w2 => BW.call (v := .bool (decide (NearP d1 i1 t1 p1 d2 i2 t2 p2))) (fun W' (h : Below w2.heap.size w2 W') => nearer_any d1 i1 t1 p1 u1 v1 d2 i2 t2 p2 u2 v2 W') b
      rw [decide_eq_false hab] at kab
      have kab := Lib.hid kab
      have kba := fun b : BW w2 => BW.call (v := .bool (decide (NearP d2 i2 t2 p2 d1 i1 t1 p1))) (fun W' (h : Below w2.heap.size w2 W') => nearer_any d2 i2 t2 p2 u2 v2 d1 i1 t1 p1 u1 v1 W') b
      rw [decide_eq_true (by have z := near_tri d1 i1 t1 p1 d2 i2 t2 p2 hne; by_cases y : NearP d2 i2 t2 p2 d1 i1 t1 p1; exact y; exact absurd (z.2 y) hab)] at kba
      have kba := Lib.hid kba
      go_wp2_with fail
      have p_A_0 := fun b : BW w2 => BW.cell A_0 lt_A b
      have p_A_1 := fun b : BW w2 => BW.cell A_1 lt_A b
      have p_A_2 := fun b : BW w2 => BW.cell A_2 lt_A b
      have p_A_3 := fun b : BW w2 => BW.cell A_3 lt_A b
      have p_A_4 := fun b : BW w2 => BW.cell A_4 lt_A b
      have p_A_5 := fun b : BW w2 => BW.cell A_5 lt_A b
      have p_B_0 := fun b : BW w2 => BW.cell B_0 lt_B b
      have p_B_1 := fun b : BW w2 => BW.cell B_1 lt_B b
      have p_B_2 := fun b : BW w2 => BW.cell B_2 lt_B b
      have p_B_3 := fun b : BW w2 => BW.cell B_3 lt_B b
      have p_B_4 := fun b : BW w2 => BW.cell B_4 lt_B b
      have p_B_5 := fun b : BW w2 => BW.cell B_5 lt_B b
      have p_C_0 := fun b : BW w2 => BW.cell C_0 lt_C b
      have p_C_1 := fun b : BW w2 => BW.cell C_1 lt_C b
      have p_C_2 := fun b : BW w2 => BW.cell C_2 lt_C b
      have p_C_3 := fun b : BW w2 => BW.cell C_3 lt_C b
      have p_C_4 := fun b : BW w2 => BW.cell C_4 lt_C b
      have p_C_5 := fun b : BW w2 => BW.cell C_5 lt_C b
      clear lt_A A_0 A_1 A_2 A_3 A_4 A_5 lt_B B_0 B_1 B_2 B_3 B_4 B_5 lt_C C_0 C_1 C_2 C_3 C_4 C_5
      refine wp_region_quiet_bw (by kernel_rfl) (by kernel_rfl) ?_
      repeat (go_big_quiet_step ((first | (go_at_call 16; with_reducible exact kaa.out _) | (go_at_call 16; with_reducible exact kab.out _) | (go_at_call 16; with_reducible exact kba.out _))))
      refine wpQuiet_nil ?_
      intro _ hw'
      obtain ⟨pq, hw''⟩ := hw'
      subst hw''
      go_wp2_with (first | (go_at_call 16; (with_reducible refine (kab.out _).mono ?_); rintro e w' ⟨rfl, bab, rfl⟩))
      have HZ := SB3h.out
      go_ret
      exact ⟨rfl, HZ.trans ((BW.h _).mono HZ.size)⟩

theorem frameNearer_arg (v0 v1 v2 : Value) (w : World) (h0 : Arg Try.prog w 25 v0) (h1 : Arg Try.prog w 25 v1) (h2 : Arg Try.prog w 25 v2) :
    Calls Try.prog 5 #[v0, v1, v2] w fun e w' => e = .returned (.bool true) ∧ Below w.heap.size w w' := by
  obtain ⟨d, i, t, p, u, v, rfl⟩ := arg_fg h0
  obtain ⟨d', i', t', p', u', v', rfl⟩ := arg_fg h1
  obtain ⟨d2, i2, t2, p2, u2, x2, rfl⟩ := arg_fg h2
  exact frameNearer_walk d i t p u v d' i' t' p' u' v' d2 i2 t2 p2 u2 x2 w
end Go.Proofs.Ytibeoeooajelgaa
