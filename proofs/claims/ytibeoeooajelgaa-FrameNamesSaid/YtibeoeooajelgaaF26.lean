/- two, turned about: a frame with two fragments put. -/
import Derived.Test.YtibeoeooajelgaaF12
import Derived.Deep.RegionHeld
namespace Go.Proofs.Ytibeoeooajelgaa
open Go.RowKit
set_option linter.unusedVariables false

set_option maxRecDepth 100000 in
set_option maxHeartbeats 8000000 in
theorem two_true (w : World) : Calls Try.prog 41 #[.bool true] w fun e w' => (∃ p f, e = .returned (.tuple #[.agg #[.int .i64 f.W, .int .i64 f.H, .slice p.ac f.nc p.kc, .slice p.ad f.nd p.kd, .slice p.ai f.ni p.ki, .slice p.a4 f.nt p.kt], .bool true]) ∧ FOwn w.heap.size w' p f ∧ f = twoF true) ∧ Below w.heap.size w w' := by
  go_enter Try.func41, Try.ntmps41
  go_wp2_with fail
  have s_R : HasBlk (w.alloc (.cells #[.int .i64 0, .int .i64 0, .slice none 0 0, .slice none 0 0, .slice none 0 0, .slice none 0 0] 29)) (w.heap.size) 29 #[.int .i64 0, .int .i64 0, .slice none 0 0, .slice none 0 0, .slice none 0 0, .slice none 0 0] := by simpa using hasBlk_new w 29 #[.int .i64 0, .int .i64 0, .slice none 0 0, .slice none 0 0, .slice none 0 0, .slice none 0 0]
  have t_R : HasBlk (w.alloc (.cells #[.int .i64 0, .int .i64 0, .slice none 0 0, .slice none 0 0, .slice none 0 0, .slice none 0 0] 29)) (w.heap.size) 29 #[.int .i64 0, .int .i64 0, .slice none 0 0, .slice none 0 0, .slice none 0 0, .slice none 0 0] := by simpa using s_R
  clear s_R
  have SB1 : Below w.heap.size w (w.alloc (.cells #[.int .i64 0, .int .i64 0, .slice none 0 0, .slice none 0 0, .slice none 0 0, .slice none 0 0] 29)) := by
    repeat' (first | exact Below.refl _ _ | assumption | apply Below.drew | refine Below.setCell ?_ (by first | omega | (simp; done) | (simp; omega)) _ | refine Below.alloc ?_ (by first | omega | (simp; done) | (simp; omega)) _)
  generalize gW_v0 : (w.alloc (.cells #[.int .i64 0, .int .i64 0, .slice none 0 0, .slice none 0 0, .slice none 0 0, .slice none 0 0] 29)) = v0 at *
  clear gW_v0
  have R := Lib.hid t_R
  clear t_R
  have SB1h := Lib.hid SB1
  clear SB1
  refine (black_any _).mono ?_
  rintro e w1 ⟨rfl, bel1⟩
  have t_R := R.out.below bel1
  clear R
  have R := Lib.hid t_R
  clear t_R
  have SB2 : Below w.heap.size w w1 := SB1h.out.trans (bel1.mono SB1h.out.size)
  clear SB1h
  have SB2h := Lib.hid SB2
  clear SB2 bel1
  have lt_R := R.out.lt
  have R_0 := R.out.cell 0
  have R_1 := R.out.cell 1
  have R_2 := R.out.cell 2
  have R_3 := R.out.cell 3
  have R_4 := R.out.cell 4
  have R_5 := R.out.cell 5
  have R_f0 := R.out.frozen 0
  have R_f1 := R.out.frozen 1
  have R_f2 := R.out.frozen 2
  have R_f3 := R.out.frozen 3
  have R_f4 := R.out.frozen 4
  have R_f5 := R.out.frozen 5
  simp at R_0 R_1 R_2 R_3 R_4 R_5
  have szB_w1 := SB2h.out.size
  go_wp2_with fail
  refine (new_any 2 1 cbk _).mono ?_
  rintro e w2 ⟨⟨p0, f0, x0, rfl, hok, hv⟩, bel2⟩
  have LTh := Lib.hid (Nat.le_trans SB2h.out.size bel2.size)
  obtain ⟨rfl, hf⟩ := new_two hv
  have D0 := Lib.hid hf
  have F0 := Lib.hid hok
  clear hok hv hf
  have t_R := R.out.below bel2
  clear R
  have R := Lib.hid t_R
  clear t_R
  have SB3 : Below w.heap.size w w2 := SB2h.out.trans (bel2.mono SB2h.out.size)
  clear SB2h
  have SB3h := Lib.hid SB3
  clear SB3 bel2
  have lt_R := R.out.lt
  have R_0 := R.out.cell 0
  have R_1 := R.out.cell 1
  have R_2 := R.out.cell 2
  have R_3 := R.out.cell 3
  have R_4 := R.out.cell 4
  have R_5 := R.out.cell 5
  have R_f0 := R.out.frozen 0
  have R_f1 := R.out.frozen 1
  have R_f2 := R.out.frozen 2
  have R_f3 := R.out.frozen 3
  have R_f4 := R.out.frozen 4
  have R_f5 := R.out.frozen 5
  simp at R_0 R_1 R_2 R_3 R_4 R_5
  have szB_w2 := SB3h.out.size
  go_wp2_with fail
  have F0a := (((F0.out.below ((Below.refl w2.heap.size w2).alloc (Nat.le_refl _) (.cells #[.int .i64 f0.W, .int .i64 f0.H, .slice p0.ac f0.nc p0.kc, .slice p0.ad f0.nd p0.kd, .slice p0.ai f0.ni p0.ki, .slice p0.a4 f0.nt p0.kt] 29))).below ((Below.refl (w2.alloc (.cells #[.int .i64 f0.W, .int .i64 f0.H, .slice p0.ac f0.nc p0.kc, .slice p0.ad f0.nd p0.kd, .slice p0.ai f0.ni p0.ki, .slice p0.a4 f0.nt p0.kt] 29)).heap.size (w2.alloc (.cells #[.int .i64 f0.W, .int .i64 f0.H, .slice p0.ac f0.nc p0.kc, .slice p0.ad f0.nd p0.kd, .slice p0.ai f0.ni p0.ki, .slice p0.a4 f0.nt p0.kt] 29))).alloc (Nat.le_refl _) (.cells #[.int .i64 600, .int .i64 3, .int .i64 0, .int .i64 0, .int .i64 0, .int .i64 0] 25))).below ((Below.refl ((w2.alloc (.cells #[.int .i64 f0.W, .int .i64 f0.H, .slice p0.ac f0.nc p0.kc, .slice p0.ad f0.nd p0.kd, .slice p0.ai f0.ni p0.ki, .slice p0.a4 f0.nt p0.kt] 29)).alloc (.cells #[.int .i64 600, .int .i64 3, .int .i64 0, .int .i64 0, .int .i64 0, .int .i64 0] 25)).heap.size ((w2.alloc (.cells #[.int .i64 f0.W, .int .i64 f0.H, .slice p0.ac f0.nc p0.kc, .slice p0.ad f0.nd p0.kd, .slice p0.ai f0.ni p0.ki, .slice p0.a4 f0.nt p0.kt] 29)).alloc (.cells #[.int .i64 600, .int .i64 3, .int .i64 0, .int .i64 0, .int .i64 0, .int .i64 0] 25))).alloc (Nat.le_refl _) (.cells #[.int .i64 600, .int .i64 2, .int .i64 0, .int .i64 0, .int .i64 0, .int .i64 0] 25)))
  clear F0
  have NE_R_T := Lib.hid (show w.heap.size ≠ w2.heap.size by omega)
  have NE_R_A := Lib.hid (show w.heap.size ≠ w2.heap.size + 1 by omega)
  have NE_T_A := Lib.hid (show w2.heap.size ≠ w2.heap.size + 1 by omega)
  have NE_R_B := Lib.hid (show w.heap.size ≠ w2.heap.size + 1 + 1 by omega)
  have NE_T_B := Lib.hid (show w2.heap.size ≠ w2.heap.size + 1 + 1 by omega)
  have NE_A_B := Lib.hid (show w2.heap.size + 1 ≠ w2.heap.size + 1 + 1 by omega)
  have s_R := R.out
  replace s_R := s_R.alloc (.cells #[.int .i64 f0.W, .int .i64 f0.H, .slice p0.ac f0.nc p0.kc, .slice p0.ad f0.nd p0.kd, .slice p0.ai f0.ni p0.ki, .slice p0.a4 f0.nt p0.kt] 29)
  have s_T : HasBlk (w2.alloc (.cells #[.int .i64 f0.W, .int .i64 f0.H, .slice p0.ac f0.nc p0.kc, .slice p0.ad f0.nd p0.kd, .slice p0.ai f0.ni p0.ki, .slice p0.a4 f0.nt p0.kt] 29)) (w2.heap.size) 29 #[.int .i64 f0.W, .int .i64 f0.H, .slice p0.ac f0.nc p0.kc, .slice p0.ad f0.nd p0.kd, .slice p0.ai f0.ni p0.ki, .slice p0.a4 f0.nt p0.kt] := by simpa using hasBlk_new w2 29 #[.int .i64 f0.W, .int .i64 f0.H, .slice p0.ac f0.nc p0.kc, .slice p0.ad f0.nd p0.kd, .slice p0.ai f0.ni p0.ki, .slice p0.a4 f0.nt p0.kt]
  replace s_R := s_R.alloc (.cells #[.int .i64 600, .int .i64 3, .int .i64 0, .int .i64 0, .int .i64 0, .int .i64 0] 25)
  replace s_T := s_T.alloc (.cells #[.int .i64 600, .int .i64 3, .int .i64 0, .int .i64 0, .int .i64 0, .int .i64 0] 25)
  have s_A : HasBlk ((w2.alloc (.cells #[.int .i64 f0.W, .int .i64 f0.H, .slice p0.ac f0.nc p0.kc, .slice p0.ad f0.nd p0.kd, .slice p0.ai f0.ni p0.ki, .slice p0.a4 f0.nt p0.kt] 29)).alloc (.cells #[.int .i64 600, .int .i64 3, .int .i64 0, .int .i64 0, .int .i64 0, .int .i64 0] 25)) (w2.heap.size + 1) 25 #[.int .i64 600, .int .i64 3, .int .i64 0, .int .i64 0, .int .i64 0, .int .i64 0] := by simpa using hasBlk_new (w2.alloc (.cells #[.int .i64 f0.W, .int .i64 f0.H, .slice p0.ac f0.nc p0.kc, .slice p0.ad f0.nd p0.kd, .slice p0.ai f0.ni p0.ki, .slice p0.a4 f0.nt p0.kt] 29)) 25 #[.int .i64 600, .int .i64 3, .int .i64 0, .int .i64 0, .int .i64 0, .int .i64 0]
  replace s_R := s_R.alloc (.cells #[.int .i64 600, .int .i64 2, .int .i64 0, .int .i64 0, .int .i64 0, .int .i64 0] 25)
  replace s_T := s_T.alloc (.cells #[.int .i64 600, .int .i64 2, .int .i64 0, .int .i64 0, .int .i64 0, .int .i64 0] 25)
  replace s_A := s_A.alloc (.cells #[.int .i64 600, .int .i64 2, .int .i64 0, .int .i64 0, .int .i64 0, .int .i64 0] 25)
  have s_B : HasBlk (((w2.alloc (.cells #[.int .i64 f0.W, .int .i64 f0.H, .slice p0.ac f0.nc p0.kc, .slice p0.ad f0.nd p0.kd, .slice p0.ai f0.ni p0.ki, .slice p0.a4 f0.nt p0.kt] 29)).alloc (.cells #[.int .i64 600, .int .i64 3, .int .i64 0, .int .i64 0, .int .i64 0, .int .i64 0] 25)).alloc (.cells #[.int .i64 600, .int .i64 2, .int .i64 0, .int .i64 0, .int .i64 0, .int .i64 0] 25)) (w2.heap.size + 1 + 1) 25 #[.int .i64 600, .int .i64 2, .int .i64 0, .int .i64 0, .int .i64 0, .int .i64 0] := by simpa using hasBlk_new ((w2.alloc (.cells #[.int .i64 f0.W, .int .i64 f0.H, .slice p0.ac f0.nc p0.kc, .slice p0.ad f0.nd p0.kd, .slice p0.ai f0.ni p0.ki, .slice p0.a4 f0.nt p0.kt] 29)).alloc (.cells #[.int .i64 600, .int .i64 3, .int .i64 0, .int .i64 0, .int .i64 0, .int .i64 0] 25)) 25 #[.int .i64 600, .int .i64 2, .int .i64 0, .int .i64 0, .int .i64 0, .int .i64 0]
  have t_R : HasBlk (((w2.alloc (.cells #[.int .i64 f0.W, .int .i64 f0.H, .slice p0.ac f0.nc p0.kc, .slice p0.ad f0.nd p0.kd, .slice p0.ai f0.ni p0.ki, .slice p0.a4 f0.nt p0.kt] 29)).alloc (.cells #[.int .i64 600, .int .i64 3, .int .i64 0, .int .i64 0, .int .i64 0, .int .i64 0] 25)).alloc (.cells #[.int .i64 600, .int .i64 2, .int .i64 0, .int .i64 0, .int .i64 0, .int .i64 0] 25)) (w.heap.size) 29 #[.int .i64 0, .int .i64 0, .slice none 0 0, .slice none 0 0, .slice none 0 0, .slice none 0 0] := by simpa using s_R
  clear s_R R
  have t_T : HasBlk (((w2.alloc (.cells #[.int .i64 f0.W, .int .i64 f0.H, .slice p0.ac f0.nc p0.kc, .slice p0.ad f0.nd p0.kd, .slice p0.ai f0.ni p0.ki, .slice p0.a4 f0.nt p0.kt] 29)).alloc (.cells #[.int .i64 600, .int .i64 3, .int .i64 0, .int .i64 0, .int .i64 0, .int .i64 0] 25)).alloc (.cells #[.int .i64 600, .int .i64 2, .int .i64 0, .int .i64 0, .int .i64 0, .int .i64 0] 25)) (w2.heap.size) 29 #[.int .i64 f0.W, .int .i64 f0.H, .slice p0.ac f0.nc p0.kc, .slice p0.ad f0.nd p0.kd, .slice p0.ai f0.ni p0.ki, .slice p0.a4 f0.nt p0.kt] := by simpa using s_T
  clear s_T
  have t_A : HasBlk (((w2.alloc (.cells #[.int .i64 f0.W, .int .i64 f0.H, .slice p0.ac f0.nc p0.kc, .slice p0.ad f0.nd p0.kd, .slice p0.ai f0.ni p0.ki, .slice p0.a4 f0.nt p0.kt] 29)).alloc (.cells #[.int .i64 600, .int .i64 3, .int .i64 0, .int .i64 0, .int .i64 0, .int .i64 0] 25)).alloc (.cells #[.int .i64 600, .int .i64 2, .int .i64 0, .int .i64 0, .int .i64 0, .int .i64 0] 25)) (w2.heap.size + 1) 25 #[.int .i64 600, .int .i64 3, .int .i64 0, .int .i64 0, .int .i64 0, .int .i64 0] := by simpa using s_A
  clear s_A
  have t_B : HasBlk (((w2.alloc (.cells #[.int .i64 f0.W, .int .i64 f0.H, .slice p0.ac f0.nc p0.kc, .slice p0.ad f0.nd p0.kd, .slice p0.ai f0.ni p0.ki, .slice p0.a4 f0.nt p0.kt] 29)).alloc (.cells #[.int .i64 600, .int .i64 3, .int .i64 0, .int .i64 0, .int .i64 0, .int .i64 0] 25)).alloc (.cells #[.int .i64 600, .int .i64 2, .int .i64 0, .int .i64 0, .int .i64 0, .int .i64 0] 25)) (w2.heap.size + 1 + 1) 25 #[.int .i64 600, .int .i64 2, .int .i64 0, .int .i64 0, .int .i64 0, .int .i64 0] := by simpa using s_B
  clear s_B
  have SB4 : Below w.heap.size w (((w2.alloc (.cells #[.int .i64 f0.W, .int .i64 f0.H, .slice p0.ac f0.nc p0.kc, .slice p0.ad f0.nd p0.kd, .slice p0.ai f0.ni p0.ki, .slice p0.a4 f0.nt p0.kt] 29)).alloc (.cells #[.int .i64 600, .int .i64 3, .int .i64 0, .int .i64 0, .int .i64 0, .int .i64 0] 25)).alloc (.cells #[.int .i64 600, .int .i64 2, .int .i64 0, .int .i64 0, .int .i64 0, .int .i64 0] 25)) := by
    have bel0 := SB3h.out
    repeat' (first | exact Below.refl _ _ | assumption | apply Below.drew | refine Below.setCell ?_ (by first | omega | (simp; done) | (simp; omega)) _ | refine Below.alloc ?_ (by first | omega | (simp; done) | (simp; omega)) _)
  clear lt_R R_0 R_1 R_2 R_3 R_4 R_5 R_f0 R_f1 R_f2 R_f3 R_f4 R_f5
  generalize gW_v1 : (((w2.alloc (.cells #[.int .i64 f0.W, .int .i64 f0.H, .slice p0.ac f0.nc p0.kc, .slice p0.ad f0.nd p0.kd, .slice p0.ai f0.ni p0.ki, .slice p0.a4 f0.nt p0.kt] 29)).alloc (.cells #[.int .i64 600, .int .i64 3, .int .i64 0, .int .i64 0, .int .i64 0, .int .i64 0] 25)).alloc (.cells #[.int .i64 600, .int .i64 2, .int .i64 0, .int .i64 0, .int .i64 0, .int .i64 0] 25)) = v1 at *
  clear gW_v1
  have R := Lib.hid t_R
  clear t_R
  have T := Lib.hid t_T
  clear t_T
  have A := Lib.hid t_A
  clear t_A
  have B := Lib.hid t_B
  clear t_B
  clear SB3h
  have SB4h := Lib.hid SB4
  clear SB4
  have F0 := Lib.hid F0a
  clear F0a
  have lt_R := R.out.lt
  have R_0 := R.out.cell 0
  have R_1 := R.out.cell 1
  have R_2 := R.out.cell 2
  have R_3 := R.out.cell 3
  have R_4 := R.out.cell 4
  have R_5 := R.out.cell 5
  have R_f0 := R.out.frozen 0
  have R_f1 := R.out.frozen 1
  have R_f2 := R.out.frozen 2
  have R_f3 := R.out.frozen 3
  have R_f4 := R.out.frozen 4
  have R_f5 := R.out.frozen 5
  simp at R_0 R_1 R_2 R_3 R_4 R_5
  have lt_T := T.out.lt
  have T_0 := T.out.cell 0
  have T_1 := T.out.cell 1
  have T_2 := T.out.cell 2
  have T_3 := T.out.cell 3
  have T_4 := T.out.cell 4
  have T_5 := T.out.cell 5
  have T_f0 := T.out.frozen 0
  have T_f1 := T.out.frozen 1
  have T_f2 := T.out.frozen 2
  have T_f3 := T.out.frozen 3
  have T_f4 := T.out.frozen 4
  have T_f5 := T.out.frozen 5
  simp at T_0 T_1 T_2 T_3 T_4 T_5
  have lt_A := A.out.lt
  have A_0 := A.out.cell 0
  have A_1 := A.out.cell 1
  have A_2 := A.out.cell 2
  have A_3 := A.out.cell 3
  have A_4 := A.out.cell 4
  have A_5 := A.out.cell 5
  simp at A_0 A_1 A_2 A_3 A_4 A_5
  have lt_B := B.out.lt
  have B_0 := B.out.cell 0
  have B_1 := B.out.cell 1
  have B_2 := B.out.cell 2
  have B_3 := B.out.cell 3
  have B_4 := B.out.cell 4
  have B_5 := B.out.cell 5
  simp at B_0 B_1 B_2 B_3 B_4 B_5
  have szB_v1 := SB4h.out.size
  have Tw0 := Lib.hid (show Two f0 by rw [D0.out]; exact two_new cbk)
  go_upto_region 4 with fail
  go_cut [] from 19 to 25 (fun  wx => ∃ p1 f1, HasBlk wx (w.heap.size) 29 #[.int .i64 0, .int .i64 0, .slice none 0 0, .slice none 0 0, .slice none 0 0, .slice none 0 0] ∧ HasBlk wx (w2.heap.size) 29 #[.int .i64 f1.W, .int .i64 f1.H, .slice p1.ac f1.nc p1.kc, .slice p1.ad f1.nd p1.kd, .slice p1.ai f1.ni p1.ki, .slice p1.a4 f1.nt p1.kt] ∧ HasBlk wx (w2.heap.size + 1) 25 #[.int .i64 600, .int .i64 3, .int .i64 0, .int .i64 0, .int .i64 0, .int .i64 0] ∧ HasBlk wx (w2.heap.size + 1 + 1) 25 #[.int .i64 600, .int .i64 2, .int .i64 0, .int .i64 0, .int .i64 0, .int .i64 0] ∧ FOwn (w.heap.size + 1) wx p1 f1 ∧ f1 = f0.put 1 600 2 0 cbl ∧ Below w.heap.size w wx)
  case first =>
    have hput := Lib.hid (fun W' (hb : Below v1.heap.size v1 W') => put_any p0 f0 1 0 600 2 0 0 0 0 cbl W' (F0.out.below hb))
    go_region_with
      (first | (go_at_call 66; (with_reducible refine (blue_any _).mono ?_); rintro e wa ⟨rfl, hba⟩; have ZT := T.out.drew.below hba; have ZB := B.out.drew.below hba; have cT0 : wa.cell? ⟨w2.heap.size, 0, none⟩ = some (.int .i64 f0.W) := ZT.cell 0; have cT1 : wa.cell? ⟨w2.heap.size, 1, none⟩ = some (.int .i64 f0.H) := ZT.cell 1; have cT2 : wa.cell? ⟨w2.heap.size, 2, none⟩ = some (.slice p0.ac f0.nc p0.kc) := ZT.cell 2; have cT3 : wa.cell? ⟨w2.heap.size, 3, none⟩ = some (.slice p0.ad f0.nd p0.kd) := ZT.cell 3; have cT4 : wa.cell? ⟨w2.heap.size, 4, none⟩ = some (.slice p0.ai f0.ni p0.ki) := ZT.cell 4; have cT5 : wa.cell? ⟨w2.heap.size, 5, none⟩ = some (.slice p0.a4 f0.nt p0.kt) := ZT.cell 5; have cB0 : wa.cell? ⟨w2.heap.size + 1 + 1, 0, none⟩ = some (.int .i64 600) := ZB.cell 0; have cB1 : wa.cell? ⟨w2.heap.size + 1 + 1, 1, none⟩ = some (.int .i64 2) := ZB.cell 1; have cB2 : wa.cell? ⟨w2.heap.size + 1 + 1, 2, none⟩ = some (.int .i64 0) := ZB.cell 2; have cB3 : wa.cell? ⟨w2.heap.size + 1 + 1, 3, none⟩ = some (.int .i64 0) := ZB.cell 3; have cB4 : wa.cell? ⟨w2.heap.size + 1 + 1, 4, none⟩ = some (.int .i64 0) := ZB.cell 4; have cB5 : wa.cell? ⟨w2.heap.size + 1 + 1, 5, none⟩ = some (.int .i64 0) := ZB.cell 5; have hbA := (Below.refl v1.heap.size v1).drew.trans hba)
             | (go_at_call 20; (with_reducible refine (hput.out _ hbA).mono ?_); rintro e wb ⟨⟨p1, f1, x1, rfl, ho, hv⟩, hbb⟩; obtain ⟨rfl, hf⟩ := put_two Tw0.out (by unfold SomeP; decide) hv; have HF := Lib.hid hf; have HO1 := Lib.hid ho; clear ho hv hf; have ZS := ZT.below hbb)
             | (have e := st6F (W := f1.W) (H := f1.H) (A1 := p1.ac) (A2 := p1.ad) (A3 := p1.ai) (A4 := p1.a4) (n1 := f1.nc) (n2 := f1.nd) (n3 := f1.ni) (n4 := f1.nt) (k1 := p1.kc) (k2 := p1.kd) (k3 := p1.ki) (k4 := p1.kt) ZS; simp [go_sem] at e; refine upon_store e ?_; clear e))
    all_goals (go_wp2_with fail; go_meet; have belb := hbA.trans (hbb.mono hbA.size); have ltT : w2.heap.size < wa.heap.size := Nat.lt_of_lt_of_le T.out.lt hbA.size; have hlT : w.heap.size ≤ w2.heap.size := LTh.out; have hlB : w.heap.size + 1 ≤ wa.heap.size := Nat.le_trans (Nat.lt_of_lt_of_le R.out.lt hbA.size) (Nat.le_refl _); exact ⟨p1, f1, (HasBlk.far (HasBlk.far (HasBlk.far (HasBlk.far (HasBlk.far (HasBlk.far (R.out.below belb) (p := ⟨w2.heap.size, 0, none⟩) (Ne.symm NE_R_T.out) _) (p := ⟨w2.heap.size, 1, none⟩) (Ne.symm NE_R_T.out) _) (p := ⟨w2.heap.size, 2, none⟩) (Ne.symm NE_R_T.out) _) (p := ⟨w2.heap.size, 3, none⟩) (Ne.symm NE_R_T.out) _) (p := ⟨w2.heap.size, 4, none⟩) (Ne.symm NE_R_T.out) _) (p := ⟨w2.heap.size, 5, none⟩) (Ne.symm NE_R_T.out) _), (by have := (HasBlk.set (HasBlk.set (HasBlk.set (HasBlk.set (HasBlk.set (HasBlk.set ZS 0 (.int .i64 f1.W)) 1 (.int .i64 f1.H)) 2 (.slice p1.ac f1.nc p1.kc)) 3 (.slice p1.ad f1.nd p1.kd)) 4 (.slice p1.ai f1.ni p1.ki)) 5 (.slice p1.a4 f1.nt p1.kt)); simpa using this), (HasBlk.far (HasBlk.far (HasBlk.far (HasBlk.far (HasBlk.far (HasBlk.far (A.out.below belb) (p := ⟨w2.heap.size, 0, none⟩) NE_T_A.out _) (p := ⟨w2.heap.size, 1, none⟩) NE_T_A.out _) (p := ⟨w2.heap.size, 2, none⟩) NE_T_A.out _) (p := ⟨w2.heap.size, 3, none⟩) NE_T_A.out _) (p := ⟨w2.heap.size, 4, none⟩) NE_T_A.out _) (p := ⟨w2.heap.size, 5, none⟩) NE_T_A.out _), (HasBlk.far (HasBlk.far (HasBlk.far (HasBlk.far (HasBlk.far (HasBlk.far (B.out.below belb) (p := ⟨w2.heap.size, 0, none⟩) NE_T_B.out _) (p := ⟨w2.heap.size, 1, none⟩) NE_T_B.out _) (p := ⟨w2.heap.size, 2, none⟩) NE_T_B.out _) (p := ⟨w2.heap.size, 3, none⟩) NE_T_B.out _) (p := ⟨w2.heap.size, 4, none⟩) NE_T_B.out _) (p := ⟨w2.heap.size, 5, none⟩) NE_T_B.out _), FOwn.base (FOwn.far (g := w2.heap.size) (j := 5) (FOwn.far (g := w2.heap.size) (j := 4) (FOwn.far (g := w2.heap.size) (j := 3) (FOwn.far (g := w2.heap.size) (j := 2) (FOwn.far (g := w2.heap.size) (j := 1) (FOwn.far (g := w2.heap.size) (j := 0) HO1.out ltT _) ltT _) ltT _) ltT _) ltT _) ltT _) hlB, HF.out, (Below.setCell (p := ⟨w2.heap.size, 5, none⟩) (Below.setCell (p := ⟨w2.heap.size, 4, none⟩) (Below.setCell (p := ⟨w2.heap.size, 3, none⟩) (Below.setCell (p := ⟨w2.heap.size, 2, none⟩) (Below.setCell (p := ⟨w2.heap.size, 1, none⟩) (Below.setCell (p := ⟨w2.heap.size, 0, none⟩) (SB4h.out.trans (belb.mono SB4h.out.size)) hlT _) hlT _) hlT _) hlT _) hlT _) hlT _)⟩)
  case rest =>
    obtain ⟨wz1, rfl⟩ : ∃ wz : World, wz = wc := ⟨wc, rfl⟩
    obtain ⟨p1, f1, hR, hT, hA, hB, hown, hf, hbel⟩ := hcut
    clear R T A B SB4h F0 lt_R R_0 R_1 R_2 R_3 R_4 R_5 R_f0 R_f1 R_f2 R_f3 R_f4 R_f5 lt_T T_0 T_1 T_2 T_3 T_4 T_5 T_f0 T_f1 T_f2 T_f3 T_f4 T_f5 lt_A A_0 A_1 A_2 A_3 A_4 A_5 lt_B B_0 B_1 B_2 B_3 B_4 B_5
    have R := Lib.hid hR
    have T := Lib.hid hT
    have A := Lib.hid hA
    have B := Lib.hid hB
    have SBk1h := Lib.hid hbel
    have O1 := Lib.hid hown
    have F1 := Lib.hid hown.ok
    have Tw1 := Lib.hid (show Two f1 by rw [hf]; exact Tw0.out.put (by unfold SomeP; decide) _)
    have D1 := Lib.hid hf
    clear hR hT hA hB hown hf hbel
    have lt_R := R.out.lt
    have R_0 := R.out.cell 0
    have R_1 := R.out.cell 1
    have R_2 := R.out.cell 2
    have R_3 := R.out.cell 3
    have R_4 := R.out.cell 4
    have R_5 := R.out.cell 5
    have R_f0 := R.out.frozen 0
    have R_f1 := R.out.frozen 1
    have R_f2 := R.out.frozen 2
    have R_f3 := R.out.frozen 3
    have R_f4 := R.out.frozen 4
    have R_f5 := R.out.frozen 5
    simp at R_0 R_1 R_2 R_3 R_4 R_5
    have lt_T := T.out.lt
    have T_0 := T.out.cell 0
    have T_1 := T.out.cell 1
    have T_2 := T.out.cell 2
    have T_3 := T.out.cell 3
    have T_4 := T.out.cell 4
    have T_5 := T.out.cell 5
    have T_f0 := T.out.frozen 0
    have T_f1 := T.out.frozen 1
    have T_f2 := T.out.frozen 2
    have T_f3 := T.out.frozen 3
    have T_f4 := T.out.frozen 4
    have T_f5 := T.out.frozen 5
    simp at T_0 T_1 T_2 T_3 T_4 T_5
    have lt_A := A.out.lt
    have A_0 := A.out.cell 0
    have A_1 := A.out.cell 1
    have A_2 := A.out.cell 2
    have A_3 := A.out.cell 3
    have A_4 := A.out.cell 4
    have A_5 := A.out.cell 5
    simp at A_0 A_1 A_2 A_3 A_4 A_5
    have lt_B := B.out.lt
    have B_0 := B.out.cell 0
    have B_1 := B.out.cell 1
    have B_2 := B.out.cell 2
    have B_3 := B.out.cell 3
    have B_4 := B.out.cell 4
    have B_5 := B.out.cell 5
    simp at B_0 B_1 B_2 B_3 B_4 B_5
    have szB_wz1 := SBk1h.out.size
    go_upto_region 5 with fail
    go_cut [8, 9] from 26 to 32 (fun s8 s9 wx => ∃ q p2 f2, s8 = .pointer (some ⟨q, 0, none⟩) ∧ s9 = .int .i64 0 ∧ w.heap.size < q ∧ HasBlk wx q 29 #[.int .i64 f2.W, .int .i64 f2.H, .slice p2.ac f2.nc p2.kc, .slice p2.ad f2.nd p2.kd, .slice p2.ai f2.ni p2.ki, .slice p2.a4 f2.nt p2.kt] ∧ HasBlk wx (w.heap.size) 29 #[.int .i64 0, .int .i64 0, .slice none 0 0, .slice none 0 0, .slice none 0 0, .slice none 0 0] ∧ HasBlk wx (w2.heap.size) 29 #[.int .i64 f1.W, .int .i64 f1.H, .slice p1.ac f1.nc p1.kc, .slice p1.ad f1.nd p1.kd, .slice p1.ai f1.ni p1.ki, .slice p1.a4 f1.nt p1.kt] ∧ HasBlk wx (w2.heap.size + 1) 25 #[.int .i64 600, .int .i64 3, .int .i64 0, .int .i64 0, .int .i64 0, .int .i64 0] ∧ HasBlk wx (w2.heap.size + 1 + 1) 25 #[.int .i64 600, .int .i64 2, .int .i64 0, .int .i64 0, .int .i64 0, .int .i64 0] ∧ FOwn (w.heap.size + 1) wx p2 f2 ∧ f2 = f1.put 1 600 3 0 crd ∧ Below w.heap.size w wx)
    case first =>
      have hput := Lib.hid (fun W' (hb : Below wz1.heap.size wz1 W') => put_any p1 f1 1 0 600 3 0 0 0 0 crd W' (F1.out.below hb))
      have hkp : Keeps (fun Wo => (Below wz1.heap.size wz1 Wo ∧ wz1.heap.size ≤ Wo.heap.size) ∧ Wo.cell? ⟨w2.heap.size, 0, none⟩ = some (.int .i64 f1.W) ∧ Wo.cell? ⟨w2.heap.size, 1, none⟩ = some (.int .i64 f1.H) ∧ Wo.cell? ⟨w2.heap.size, 2, none⟩ = some (.slice p1.ac f1.nc p1.kc) ∧ Wo.cell? ⟨w2.heap.size, 3, none⟩ = some (.slice p1.ad f1.nd p1.kd) ∧ Wo.cell? ⟨w2.heap.size, 4, none⟩ = some (.slice p1.ai f1.ni p1.ki) ∧ Wo.cell? ⟨w2.heap.size, 5, none⟩ = some (.slice p1.a4 f1.nt p1.kt) ∧ Wo.cell? ⟨w2.heap.size + 1, 0, none⟩ = some (.int .i64 600) ∧ Wo.cell? ⟨w2.heap.size + 1, 1, none⟩ = some (.int .i64 3) ∧ Wo.cell? ⟨w2.heap.size + 1, 2, none⟩ = some (.int .i64 0) ∧ Wo.cell? ⟨w2.heap.size + 1, 3, none⟩ = some (.int .i64 0) ∧ Wo.cell? ⟨w2.heap.size + 1, 4, none⟩ = some (.int .i64 0) ∧ Wo.cell? ⟨w2.heap.size + 1, 5, none⟩ = some (.int .i64 0)) := by
        repeat' (first | exact Keeps.below _ | exact Keeps.size _ | exact Keeps.cell _ _ | apply Keeps.and)
      have hkp' : ∀ Wa Wb, Below Wa.heap.size Wa Wb → (fun Wo => (Below wz1.heap.size wz1 Wo ∧ wz1.heap.size ≤ Wo.heap.size) ∧ Wo.cell? ⟨w2.heap.size, 0, none⟩ = some (.int .i64 f1.W) ∧ Wo.cell? ⟨w2.heap.size, 1, none⟩ = some (.int .i64 f1.H) ∧ Wo.cell? ⟨w2.heap.size, 2, none⟩ = some (.slice p1.ac f1.nc p1.kc) ∧ Wo.cell? ⟨w2.heap.size, 3, none⟩ = some (.slice p1.ad f1.nd p1.kd) ∧ Wo.cell? ⟨w2.heap.size, 4, none⟩ = some (.slice p1.ai f1.ni p1.ki) ∧ Wo.cell? ⟨w2.heap.size, 5, none⟩ = some (.slice p1.a4 f1.nt p1.kt) ∧ Wo.cell? ⟨w2.heap.size + 1, 0, none⟩ = some (.int .i64 600) ∧ Wo.cell? ⟨w2.heap.size + 1, 1, none⟩ = some (.int .i64 3) ∧ Wo.cell? ⟨w2.heap.size + 1, 2, none⟩ = some (.int .i64 0) ∧ Wo.cell? ⟨w2.heap.size + 1, 3, none⟩ = some (.int .i64 0) ∧ Wo.cell? ⟨w2.heap.size + 1, 4, none⟩ = some (.int .i64 0) ∧ Wo.cell? ⟨w2.heap.size + 1, 5, none⟩ = some (.int .i64 0)) Wa → (fun Wo => (Below wz1.heap.size wz1 Wo ∧ wz1.heap.size ≤ Wo.heap.size) ∧ Wo.cell? ⟨w2.heap.size, 0, none⟩ = some (.int .i64 f1.W) ∧ Wo.cell? ⟨w2.heap.size, 1, none⟩ = some (.int .i64 f1.H) ∧ Wo.cell? ⟨w2.heap.size, 2, none⟩ = some (.slice p1.ac f1.nc p1.kc) ∧ Wo.cell? ⟨w2.heap.size, 3, none⟩ = some (.slice p1.ad f1.nd p1.kd) ∧ Wo.cell? ⟨w2.heap.size, 4, none⟩ = some (.slice p1.ai f1.ni p1.ki) ∧ Wo.cell? ⟨w2.heap.size, 5, none⟩ = some (.slice p1.a4 f1.nt p1.kt) ∧ Wo.cell? ⟨w2.heap.size + 1, 0, none⟩ = some (.int .i64 600) ∧ Wo.cell? ⟨w2.heap.size + 1, 1, none⟩ = some (.int .i64 3) ∧ Wo.cell? ⟨w2.heap.size + 1, 2, none⟩ = some (.int .i64 0) ∧ Wo.cell? ⟨w2.heap.size + 1, 3, none⟩ = some (.int .i64 0) ∧ Wo.cell? ⟨w2.heap.size + 1, 4, none⟩ = some (.int .i64 0) ∧ Wo.cell? ⟨w2.heap.size + 1, 5, none⟩ = some (.int .i64 0)) Wb := hkp
      have Hkp := Lib.hid hkp'
      clear hkp hkp'
      have keepS : (fun Wo => (Below wz1.heap.size wz1 Wo ∧ wz1.heap.size ≤ Wo.heap.size) ∧ Wo.cell? ⟨w2.heap.size, 0, none⟩ = some (.int .i64 f1.W) ∧ Wo.cell? ⟨w2.heap.size, 1, none⟩ = some (.int .i64 f1.H) ∧ Wo.cell? ⟨w2.heap.size, 2, none⟩ = some (.slice p1.ac f1.nc p1.kc) ∧ Wo.cell? ⟨w2.heap.size, 3, none⟩ = some (.slice p1.ad f1.nd p1.kd) ∧ Wo.cell? ⟨w2.heap.size, 4, none⟩ = some (.slice p1.ai f1.ni p1.ki) ∧ Wo.cell? ⟨w2.heap.size, 5, none⟩ = some (.slice p1.a4 f1.nt p1.kt) ∧ Wo.cell? ⟨w2.heap.size + 1, 0, none⟩ = some (.int .i64 600) ∧ Wo.cell? ⟨w2.heap.size + 1, 1, none⟩ = some (.int .i64 3) ∧ Wo.cell? ⟨w2.heap.size + 1, 2, none⟩ = some (.int .i64 0) ∧ Wo.cell? ⟨w2.heap.size + 1, 3, none⟩ = some (.int .i64 0) ∧ Wo.cell? ⟨w2.heap.size + 1, 4, none⟩ = some (.int .i64 0) ∧ Wo.cell? ⟨w2.heap.size + 1, 5, none⟩ = some (.int .i64 0)) wz1.drew := ⟨⟨(Below.refl _ _).drew, Nat.le_refl _⟩, T.out.drew.cell 0, T.out.drew.cell 1, T.out.drew.cell 2, T.out.drew.cell 3, T.out.drew.cell 4, T.out.drew.cell 5, A.out.drew.cell 0, A.out.drew.cell 1, A.out.drew.cell 2, A.out.drew.cell 3, A.out.drew.cell 4, A.out.drew.cell 5⟩
      have lt9R := R.out.lt
      have lt9T := T.out.lt
      have lt9A := A.out.lt
      have lt9B := B.out.lt
      go_region_held3 (fun Wo => (Below wz1.heap.size wz1 Wo ∧ wz1.heap.size ≤ Wo.heap.size) ∧ Wo.cell? ⟨w2.heap.size, 0, none⟩ = some (.int .i64 f1.W) ∧ Wo.cell? ⟨w2.heap.size, 1, none⟩ = some (.int .i64 f1.H) ∧ Wo.cell? ⟨w2.heap.size, 2, none⟩ = some (.slice p1.ac f1.nc p1.kc) ∧ Wo.cell? ⟨w2.heap.size, 3, none⟩ = some (.slice p1.ad f1.nd p1.kd) ∧ Wo.cell? ⟨w2.heap.size, 4, none⟩ = some (.slice p1.ai f1.ni p1.ki) ∧ Wo.cell? ⟨w2.heap.size, 5, none⟩ = some (.slice p1.a4 f1.nt p1.kt) ∧ Wo.cell? ⟨w2.heap.size + 1, 0, none⟩ = some (.int .i64 600) ∧ Wo.cell? ⟨w2.heap.size + 1, 1, none⟩ = some (.int .i64 3) ∧ Wo.cell? ⟨w2.heap.size + 1, 2, none⟩ = some (.int .i64 0) ∧ Wo.cell? ⟨w2.heap.size + 1, 3, none⟩ = some (.int .i64 0) ∧ Wo.cell? ⟨w2.heap.size + 1, 4, none⟩ = some (.int .i64 0) ∧ Wo.cell? ⟨w2.heap.size + 1, 5, none⟩ = some (.int .i64 0))
        (first | with_reducible exact q3 | with_reducible exact q3w | with_reducible exact keepS | with_reducible exact Hkp.out _ _ hbel (by assumption) | with_reducible exact Hkp.out _ _ ((Below.refl _ _).alloc (Nat.le_refl _) _) (by assumption) | with_reducible exact q9 | with_reducible exact Hkp.out _ _ ((Below.refl _ _).alloc (Nat.le_refl _) _) q9 | with_reducible exact Hkp.out _ _ ((Below.refl _ _).alloc (Nat.le_refl _) _) keepS | fail "keep")
        (first | (go_at_call 43; (with_reducible refine (red_any _).mono ?_); rintro e wa ⟨rfl, hbel⟩; have szA : wz1.heap.size ≤ wa.heap.size := (by have := hbel.size; simp at this; omega); (try (have ZX := (hasBlk_new wz1 29 #[.int .i64 0, .int .i64 0, .slice none 0 0, .slice none 0 0, .slice none 0 0, .slice none 0 0]).drew.below hbel)))
               | (go_at_call 20; (with_reducible refine (hput.out _ ?_).mono ?_); exact ‹(Below wz1.heap.size wz1 _ ∧ _) ∧ _›.1.1; have szc := ‹(Below wz1.heap.size wz1 _ ∧ _) ∧ _›.1.2; rintro e wb ⟨⟨p2, f2, x2, rfl, ho, hv⟩, hbel⟩; obtain ⟨rfl, hf⟩ := put_two Tw1.out (by unfold SomeP; decide) hv; have HF := Lib.hid hf; have HO2 := Lib.hid ho; clear ho hv hf; (first | (have ZS := ZX.below hbel) | (have ZS := (hasBlk_new wa 29 #[.int .i64 0, .int .i64 0, .slice none 0 0, .slice none 0 0, .slice none 0 0, .slice none 0 0]).below hbel) | skip); have q9 : (fun Wo => (Below wz1.heap.size wz1 Wo ∧ wz1.heap.size ≤ Wo.heap.size) ∧ Wo.cell? ⟨w2.heap.size, 0, none⟩ = some (.int .i64 f1.W) ∧ Wo.cell? ⟨w2.heap.size, 1, none⟩ = some (.int .i64 f1.H) ∧ Wo.cell? ⟨w2.heap.size, 2, none⟩ = some (.slice p1.ac f1.nc p1.kc) ∧ Wo.cell? ⟨w2.heap.size, 3, none⟩ = some (.slice p1.ad f1.nd p1.kd) ∧ Wo.cell? ⟨w2.heap.size, 4, none⟩ = some (.slice p1.ai f1.ni p1.ki) ∧ Wo.cell? ⟨w2.heap.size, 5, none⟩ = some (.slice p1.a4 f1.nt p1.kt) ∧ Wo.cell? ⟨w2.heap.size + 1, 0, none⟩ = some (.int .i64 600) ∧ Wo.cell? ⟨w2.heap.size + 1, 1, none⟩ = some (.int .i64 3) ∧ Wo.cell? ⟨w2.heap.size + 1, 2, none⟩ = some (.int .i64 0) ∧ Wo.cell? ⟨w2.heap.size + 1, 3, none⟩ = some (.int .i64 0) ∧ Wo.cell? ⟨w2.heap.size + 1, 4, none⟩ = some (.int .i64 0) ∧ Wo.cell? ⟨w2.heap.size + 1, 5, none⟩ = some (.int .i64 0)) wb := Hkp.out _ _ hbel (by assumption))
               | (have e := st6F (W := f2.W) (H := f2.H) (A1 := p2.ac) (A2 := p2.ad) (A3 := p2.ai) (A4 := p2.a4) (n1 := f2.nc) (n2 := f2.nd) (n3 := f2.ni) (n4 := f2.nt) (k1 := p2.kc) (k2 := p2.kd) (k3 := p2.ki) (k4 := p2.kt) ZS; simp [go_sem] at e; refine upon_store e ?_; clear e; have q3 : (fun Wo => (Below wz1.heap.size wz1 Wo ∧ wz1.heap.size ≤ Wo.heap.size) ∧ Wo.cell? ⟨w2.heap.size, 0, none⟩ = some (.int .i64 f1.W) ∧ Wo.cell? ⟨w2.heap.size, 1, none⟩ = some (.int .i64 f1.H) ∧ Wo.cell? ⟨w2.heap.size, 2, none⟩ = some (.slice p1.ac f1.nc p1.kc) ∧ Wo.cell? ⟨w2.heap.size, 3, none⟩ = some (.slice p1.ad f1.nd p1.kd) ∧ Wo.cell? ⟨w2.heap.size, 4, none⟩ = some (.slice p1.ai f1.ni p1.ki) ∧ Wo.cell? ⟨w2.heap.size, 5, none⟩ = some (.slice p1.a4 f1.nt p1.kt) ∧ Wo.cell? ⟨w2.heap.size + 1, 0, none⟩ = some (.int .i64 600) ∧ Wo.cell? ⟨w2.heap.size + 1, 1, none⟩ = some (.int .i64 3) ∧ Wo.cell? ⟨w2.heap.size + 1, 2, none⟩ = some (.int .i64 0) ∧ Wo.cell? ⟨w2.heap.size + 1, 3, none⟩ = some (.int .i64 0) ∧ Wo.cell? ⟨w2.heap.size + 1, 4, none⟩ = some (.int .i64 0) ∧ Wo.cell? ⟨w2.heap.size + 1, 5, none⟩ = some (.int .i64 0)) ((((((wb.setCell ⟨wz1.heap.size, 0, none⟩ (.int .i64 f2.W)).setCell ⟨wz1.heap.size, 1, none⟩ (.int .i64 f2.H)).setCell ⟨wz1.heap.size, 2, none⟩ (.slice p2.ac f2.nc p2.kc)).setCell ⟨wz1.heap.size, 3, none⟩ (.slice p2.ad f2.nd p2.kd)).setCell ⟨wz1.heap.size, 4, none⟩ (.slice p2.ai f2.ni p2.ki)).setCell ⟨wz1.heap.size, 5, none⟩ (.slice p2.a4 f2.nt p2.kt)) := ⟨⟨(Below.setCell (p := ⟨wz1.heap.size, 5, none⟩) (Below.setCell (p := ⟨wz1.heap.size, 4, none⟩) (Below.setCell (p := ⟨wz1.heap.size, 3, none⟩) (Below.setCell (p := ⟨wz1.heap.size, 2, none⟩) (Below.setCell (p := ⟨wz1.heap.size, 1, none⟩) (Below.setCell (p := ⟨wz1.heap.size, 0, none⟩) q9.1.1 (show wz1.heap.size ≤ wz1.heap.size by omega) _) (show wz1.heap.size ≤ wz1.heap.size by omega) _) (show wz1.heap.size ≤ wz1.heap.size by omega) _) (show wz1.heap.size ≤ wz1.heap.size by omega) _) (show wz1.heap.size ≤ wz1.heap.size by omega) _) (show wz1.heap.size ≤ wz1.heap.size by omega) _), by simpa using q9.1.2⟩, (cell_far6 (show wz1.heap.size ≠ w2.heap.size by omega) _ _ _ _ _ _).trans q9.2.1, (cell_far6 (show wz1.heap.size ≠ w2.heap.size by omega) _ _ _ _ _ _).trans q9.2.2.1, (cell_far6 (show wz1.heap.size ≠ w2.heap.size by omega) _ _ _ _ _ _).trans q9.2.2.2.1, (cell_far6 (show wz1.heap.size ≠ w2.heap.size by omega) _ _ _ _ _ _).trans q9.2.2.2.2.1, (cell_far6 (show wz1.heap.size ≠ w2.heap.size by omega) _ _ _ _ _ _).trans q9.2.2.2.2.2.1, (cell_far6 (show wz1.heap.size ≠ w2.heap.size by omega) _ _ _ _ _ _).trans q9.2.2.2.2.2.2.1, (cell_far6 (show wz1.heap.size ≠ w2.heap.size + 1 by omega) _ _ _ _ _ _).trans q9.2.2.2.2.2.2.2.1, (cell_far6 (show wz1.heap.size ≠ w2.heap.size + 1 by omega) _ _ _ _ _ _).trans q9.2.2.2.2.2.2.2.2.1, (cell_far6 (show wz1.heap.size ≠ w2.heap.size + 1 by omega) _ _ _ _ _ _).trans q9.2.2.2.2.2.2.2.2.2.1, (cell_far6 (show wz1.heap.size ≠ w2.heap.size + 1 by omega) _ _ _ _ _ _).trans q9.2.2.2.2.2.2.2.2.2.2.1, (cell_far6 (show wz1.heap.size ≠ w2.heap.size + 1 by omega) _ _ _ _ _ _).trans q9.2.2.2.2.2.2.2.2.2.2.2.1, (cell_far6 (show wz1.heap.size ≠ w2.heap.size + 1 by omega) _ _ _ _ _ _).trans q9.2.2.2.2.2.2.2.2.2.2.2.2⟩; have q3w : (fun Wo => (Below wz1.heap.size wz1 Wo ∧ wz1.heap.size ≤ Wo.heap.size) ∧ Wo.cell? ⟨w2.heap.size, 0, none⟩ = some (.int .i64 f1.W) ∧ Wo.cell? ⟨w2.heap.size, 1, none⟩ = some (.int .i64 f1.H) ∧ Wo.cell? ⟨w2.heap.size, 2, none⟩ = some (.slice p1.ac f1.nc p1.kc) ∧ Wo.cell? ⟨w2.heap.size, 3, none⟩ = some (.slice p1.ad f1.nd p1.kd) ∧ Wo.cell? ⟨w2.heap.size, 4, none⟩ = some (.slice p1.ai f1.ni p1.ki) ∧ Wo.cell? ⟨w2.heap.size, 5, none⟩ = some (.slice p1.a4 f1.nt p1.kt) ∧ Wo.cell? ⟨w2.heap.size + 1, 0, none⟩ = some (.int .i64 600) ∧ Wo.cell? ⟨w2.heap.size + 1, 1, none⟩ = some (.int .i64 3) ∧ Wo.cell? ⟨w2.heap.size + 1, 2, none⟩ = some (.int .i64 0) ∧ Wo.cell? ⟨w2.heap.size + 1, 3, none⟩ = some (.int .i64 0) ∧ Wo.cell? ⟨w2.heap.size + 1, 4, none⟩ = some (.int .i64 0) ∧ Wo.cell? ⟨w2.heap.size + 1, 5, none⟩ = some (.int .i64 0)) ((((((wb.setCell ⟨wa.heap.size, 0, none⟩ (.int .i64 f2.W)).setCell ⟨wa.heap.size, 1, none⟩ (.int .i64 f2.H)).setCell ⟨wa.heap.size, 2, none⟩ (.slice p2.ac f2.nc p2.kc)).setCell ⟨wa.heap.size, 3, none⟩ (.slice p2.ad f2.nd p2.kd)).setCell ⟨wa.heap.size, 4, none⟩ (.slice p2.ai f2.ni p2.ki)).setCell ⟨wa.heap.size, 5, none⟩ (.slice p2.a4 f2.nt p2.kt)) := ⟨⟨(Below.setCell (p := ⟨wa.heap.size, 5, none⟩) (Below.setCell (p := ⟨wa.heap.size, 4, none⟩) (Below.setCell (p := ⟨wa.heap.size, 3, none⟩) (Below.setCell (p := ⟨wa.heap.size, 2, none⟩) (Below.setCell (p := ⟨wa.heap.size, 1, none⟩) (Below.setCell (p := ⟨wa.heap.size, 0, none⟩) q9.1.1 (show wz1.heap.size ≤ wa.heap.size by omega) _) (show wz1.heap.size ≤ wa.heap.size by omega) _) (show wz1.heap.size ≤ wa.heap.size by omega) _) (show wz1.heap.size ≤ wa.heap.size by omega) _) (show wz1.heap.size ≤ wa.heap.size by omega) _) (show wz1.heap.size ≤ wa.heap.size by omega) _), by simpa using q9.1.2⟩, (cell_far6 (show wa.heap.size ≠ w2.heap.size by omega) _ _ _ _ _ _).trans q9.2.1, (cell_far6 (show wa.heap.size ≠ w2.heap.size by omega) _ _ _ _ _ _).trans q9.2.2.1, (cell_far6 (show wa.heap.size ≠ w2.heap.size by omega) _ _ _ _ _ _).trans q9.2.2.2.1, (cell_far6 (show wa.heap.size ≠ w2.heap.size by omega) _ _ _ _ _ _).trans q9.2.2.2.2.1, (cell_far6 (show wa.heap.size ≠ w2.heap.size by omega) _ _ _ _ _ _).trans q9.2.2.2.2.2.1, (cell_far6 (show wa.heap.size ≠ w2.heap.size by omega) _ _ _ _ _ _).trans q9.2.2.2.2.2.2.1, (cell_far6 (show wa.heap.size ≠ w2.heap.size + 1 by omega) _ _ _ _ _ _).trans q9.2.2.2.2.2.2.2.1, (cell_far6 (show wa.heap.size ≠ w2.heap.size + 1 by omega) _ _ _ _ _ _).trans q9.2.2.2.2.2.2.2.2.1, (cell_far6 (show wa.heap.size ≠ w2.heap.size + 1 by omega) _ _ _ _ _ _).trans q9.2.2.2.2.2.2.2.2.2.1, (cell_far6 (show wa.heap.size ≠ w2.heap.size + 1 by omega) _ _ _ _ _ _).trans q9.2.2.2.2.2.2.2.2.2.2.1, (cell_far6 (show wa.heap.size ≠ w2.heap.size + 1 by omega) _ _ _ _ _ _).trans q9.2.2.2.2.2.2.2.2.2.2.2.1, (cell_far6 (show wa.heap.size ≠ w2.heap.size + 1 by omega) _ _ _ _ _ _).trans q9.2.2.2.2.2.2.2.2.2.2.2.2⟩))
      all_goals (go_wp2_with fail; go_meet; have LT9 := LTh.out; (try (have ltX := ZX.lt)); first | ((have _ := ZX); (have belQ := q3.1.1); exact ⟨wz1.heap.size, p2, f2, rfl, rfl, (by omega), (by have := (HasBlk.set (HasBlk.set (HasBlk.set (HasBlk.set (HasBlk.set (HasBlk.set ZS 0 (.int .i64 f2.W)) 1 (.int .i64 f2.H)) 2 (.slice p2.ac f2.nc p2.kc)) 3 (.slice p2.ad f2.nd p2.kd)) 4 (.slice p2.ai f2.ni p2.ki)) 5 (.slice p2.a4 f2.nt p2.kt)); simpa using this), R.out.below belQ, T.out.below belQ, A.out.below belQ, B.out.below belQ, FOwn.base (FOwn.far (g := wz1.heap.size) (j := 5) (FOwn.far (g := wz1.heap.size) (j := 4) (FOwn.far (g := wz1.heap.size) (j := 3) (FOwn.far (g := wz1.heap.size) (j := 2) (FOwn.far (g := wz1.heap.size) (j := 1) (FOwn.far (g := wz1.heap.size) (j := 0) HO2.out (by first | omega | (simp; done) | (simp; omega)) _) (by first | omega | (simp; done) | (simp; omega)) _) (by first | omega | (simp; done) | (simp; omega)) _) (by first | omega | (simp; done) | (simp; omega)) _) (by first | omega | (simp; done) | (simp; omega)) _) (by first | omega | (simp; done) | (simp; omega)) _) (by first | omega | (simp; done) | (simp; omega)), HF.out, SBk1h.out.trans (belQ.mono SBk1h.out.size)⟩) | ((have _ := ZS); (have belQ := q3w.1.1); exact ⟨wa.heap.size, p2, f2, rfl, rfl, (by omega), (by have := (HasBlk.set (HasBlk.set (HasBlk.set (HasBlk.set (HasBlk.set (HasBlk.set ZS 0 (.int .i64 f2.W)) 1 (.int .i64 f2.H)) 2 (.slice p2.ac f2.nc p2.kc)) 3 (.slice p2.ad f2.nd p2.kd)) 4 (.slice p2.ai f2.ni p2.ki)) 5 (.slice p2.a4 f2.nt p2.kt)); simpa using this), R.out.below belQ, T.out.below belQ, A.out.below belQ, B.out.below belQ, FOwn.base (FOwn.far (g := wa.heap.size) (j := 5) (FOwn.far (g := wa.heap.size) (j := 4) (FOwn.far (g := wa.heap.size) (j := 3) (FOwn.far (g := wa.heap.size) (j := 2) (FOwn.far (g := wa.heap.size) (j := 1) (FOwn.far (g := wa.heap.size) (j := 0) HO2.out (by first | omega | (simp; done) | (simp; omega)) _) (by first | omega | (simp; done) | (simp; omega)) _) (by first | omega | (simp; done) | (simp; omega)) _) (by first | omega | (simp; done) | (simp; omega)) _) (by first | omega | (simp; done) | (simp; omega)) _) (by first | omega | (simp; done) | (simp; omega)) _) (by first | omega | (simp; done) | (simp; omega)), HF.out, SBk1h.out.trans (belQ.mono SBk1h.out.size)⟩) | ((have belQ := (Hkp.out _ _ ((Below.refl wb.heap.size wb).alloc (Nat.le_refl _) (.cells #[.int .i64 f2.W, .int .i64 f2.H, .slice p2.ac f2.nc p2.kc, .slice p2.ad f2.nd p2.kd, .slice p2.ai f2.ni p2.ki, .slice p2.a4 f2.nt p2.kt] 29)) q9).1.1); exact ⟨wb.heap.size, p2, f2, rfl, rfl, (by have := q9.1.2; omega), (by simpa using hasBlk_new wb 29 #[.int .i64 f2.W, .int .i64 f2.H, .slice p2.ac f2.nc p2.kc, .slice p2.ad f2.nd p2.kd, .slice p2.ai f2.ni p2.ki, .slice p2.a4 f2.nt p2.kt]), R.out.below belQ, T.out.below belQ, A.out.below belQ, B.out.below belQ, FOwn.base (HO2.out.below ((Below.refl wb.heap.size wb).alloc (Nat.le_refl _) (.cells #[.int .i64 f2.W, .int .i64 f2.H, .slice p2.ac f2.nc p2.kc, .slice p2.ad f2.nd p2.kd, .slice p2.ai f2.ni p2.ki, .slice p2.a4 f2.nt p2.kt] 29))) (by first | omega | (simp; done) | (simp; omega)), HF.out, SBk1h.out.trans (belQ.mono SBk1h.out.size)⟩))
    case rest =>
      obtain ⟨wz2, rfl⟩ : ∃ wz : World, wz = wc := ⟨wc, rfl⟩
      obtain ⟨q, p2, f2, rfl, rfl, hq, hX, hR, hT, hA, hB, hown, hf, hbel⟩ := hcut
      clear R T A B SBk1h F1 lt_R R_0 R_1 R_2 R_3 R_4 R_5 R_f0 R_f1 R_f2 R_f3 R_f4 R_f5 lt_T T_0 T_1 T_2 T_3 T_4 T_5 T_f0 T_f1 T_f2 T_f3 T_f4 T_f5 lt_A A_0 A_1 A_2 A_3 A_4 A_5 lt_B B_0 B_1 B_2 B_3 B_4 B_5
      have R := Lib.hid hR
      have X := Lib.hid hX
      have SBk2h := Lib.hid hbel
      have O2 := Lib.hid hown
      have D2 := Lib.hid hf
      have neX : q ≠ w.heap.size := by omega
      have neX' : w.heap.size ≠ q := by omega
      clear hR hT hA hB hown hf hbel hX hq
      have lt_R := R.out.lt
      have R_0 := R.out.cell 0
      have R_1 := R.out.cell 1
      have R_2 := R.out.cell 2
      have R_3 := R.out.cell 3
      have R_4 := R.out.cell 4
      have R_5 := R.out.cell 5
      have R_f0 := R.out.frozen 0
      have R_f1 := R.out.frozen 1
      have R_f2 := R.out.frozen 2
      have R_f3 := R.out.frozen 3
      have R_f4 := R.out.frozen 4
      have R_f5 := R.out.frozen 5
      simp at R_0 R_1 R_2 R_3 R_4 R_5
      have lt_X := X.out.lt
      have X_0 := X.out.cell 0
      have X_1 := X.out.cell 1
      have X_2 := X.out.cell 2
      have X_3 := X.out.cell 3
      have X_4 := X.out.cell 4
      have X_5 := X.out.cell 5
      simp at X_0 X_1 X_2 X_3 X_4 X_5
      have szB_wz2 := SBk2h.out.size
      go_wp2
      refine bodyPost_ret (v := .tuple #[.agg #[.int .i64 f2.W, .int .i64 f2.H, .slice p2.ac f2.nc p2.kc, .slice p2.ad f2.nd p2.kd, .slice p2.ai f2.ni p2.ki, .slice p2.a4 f2.nt p2.kt], .bool true]) (by simp [results, Try.results41, go_sem, *]) rfl ⟨⟨p2, f2, rfl, FOwn.base (FOwn.far (g := w.heap.size) (j := 5) (FOwn.far (g := w.heap.size) (j := 4) (FOwn.far (g := w.heap.size) (j := 3) (FOwn.far (g := w.heap.size) (j := 2) (FOwn.far (g := w.heap.size) (j := 1) (FOwn.far (g := w.heap.size) (j := 0) O2.out (Nat.lt_succ_self _) _) (Nat.lt_succ_self _) _) (Nat.lt_succ_self _) _) (Nat.lt_succ_self _) _) (Nat.lt_succ_self _) _) (Nat.lt_succ_self _) _) (Nat.le_succ _), by rw [D2.out, D1.out, D0.out]; rfl⟩, ?_⟩
      exact (Below.setCell (p := ⟨w.heap.size, 5, none⟩) (Below.setCell (p := ⟨w.heap.size, 4, none⟩) (Below.setCell (p := ⟨w.heap.size, 3, none⟩) (Below.setCell (p := ⟨w.heap.size, 2, none⟩) (Below.setCell (p := ⟨w.heap.size, 1, none⟩) (Below.setCell (p := ⟨w.heap.size, 0, none⟩) SBk2h.out (Nat.le_refl _) _) (Nat.le_refl _) _) (Nat.le_refl _) _) (Nat.le_refl _) _) (Nat.le_refl _) _) (Nat.le_refl _) _)
end Go.Proofs.Ytibeoeooajelgaa
