/- ArenaNames: the walk. -/
import Derived.Test.YtapibgpjfliifaaR5
namespace Go.Proofs.Ytapibgpjfliifaa
open Go.RowKit
set_option linter.unusedVariables false

def bk1 := upd b1 0 false
theorem bad_row {W : World} {X : Nat} (h : HasBlk W X 33 #[.int .i64 0, .bool false]) : Row W (some ⟨X, 0, none⟩) 1 2 (sv g0 b0) := by
  refine Row.of_blk h (fun i hi j hj => ?_)
  have e : i = 0 := by omega
  subst e
  have e : j = 0 ∨ j = 1 := by omega
  rcases e with rfl | rfl <;> rfl
theorem nmay : ¬ MayA 1 g0 := by unfold MayA; decide

set_option maxRecDepth 100000 in
set_option maxHeartbeats 4000000 in
theorem arenaNames_arg (w : World) : Calls Try.prog 3 #[] w fun e w' => e = .returned (.bool true) ∧ Below w.heap.size w w' := by
  go_enter Try.func3, Try.ntmps3
  go_wp2_with fail
  refine (make_any none 0 0 g0 b0 w (Row.zero _ _ _ _) (by omega)).mono ?_
  rintro e w1 ⟨hx, bel1⟩
  obtain ⟨A1, c1, rfl, o1⟩ := make_grow (m := 1) hx may0 (by decide) (by decide) rfl
  have O1 := Lib.hid o1
  clear o1 hx
  have SB1 : Below w.heap.size w w1 := bel1
  have SB1h := Lib.hid SB1
  clear SB1 
  have szB_w1 := SB1h.out.size
  go_wp2_with fail
  have NE_P_Q := Lib.hid (show w1.heap.size ≠ w1.heap.size + 1 by omega)
  have s_O1 := O1.out
  replace s_O1 := World.ownsRow.alloc s_O1 (.cells #[.slice A1 1 c1] 24)
  have s_P : HasBlk (w1.alloc (.cells #[.slice A1 1 c1] 24)) (w1.heap.size) 24 #[.slice A1 1 c1] := by simpa using hasBlk_new w1 24 #[.slice A1 1 c1]
  replace s_P := s_P.alloc (.cells #[.int .i64 0, .int .i64 1] 26)
  replace s_O1 := World.ownsRow.alloc s_O1 (.cells #[.int .i64 0, .int .i64 1] 26)
  have s_Q : HasBlk ((w1.alloc (.cells #[.slice A1 1 c1] 24)).alloc (.cells #[.int .i64 0, .int .i64 1] 26)) (w1.heap.size + 1) 26 #[.int .i64 0, .int .i64 1] := by simpa using hasBlk_new (w1.alloc (.cells #[.slice A1 1 c1] 24)) 26 #[.int .i64 0, .int .i64 1]
  have t_P : HasBlk ((w1.alloc (.cells #[.slice A1 1 c1] 24)).alloc (.cells #[.int .i64 0, .int .i64 1] 26)) (w1.heap.size) 24 #[.slice A1 1 c1] := by simpa using s_P
  clear s_P
  have t_Q : HasBlk ((w1.alloc (.cells #[.slice A1 1 c1] 24)).alloc (.cells #[.int .i64 0, .int .i64 1] 26)) (w1.heap.size + 1) 26 #[.int .i64 0, .int .i64 1] := by simpa using s_Q
  clear s_Q
  have t_O1 : (((w1.alloc (.cells #[.slice A1 1 c1] 24)).alloc (.cells #[.int .i64 0, .int .i64 1] 26))).ownsRow (w.heap.size) 33 2 (.slice A1 (1) (c1)) (1) (cellsR 2 (sv g1 b1) 1) := s_O1
  clear s_O1 O1
  have SB2 : Below w.heap.size w ((w1.alloc (.cells #[.slice A1 1 c1] 24)).alloc (.cells #[.int .i64 0, .int .i64 1] 26)) := by
    have bel0 := SB1h.out
    repeat' (first | exact Below.refl _ _ | assumption | apply Below.drew | refine Below.setCell ?_ (by first | omega | (simp; done) | (simp; omega)) _ | refine Below.alloc ?_ (by first | omega | (simp; done) | (simp; omega)) _)
  generalize gW_v1 : ((w1.alloc (.cells #[.slice A1 1 c1] 24)).alloc (.cells #[.int .i64 0, .int .i64 1] 26)) = v1 at *
  clear gW_v1
  have P := Lib.hid t_P
  clear t_P
  have Q := Lib.hid t_Q
  clear t_Q
  have O1 := Lib.hid t_O1
  clear t_O1
  clear SB1h
  have SB2h := Lib.hid SB2
  clear SB2
  refine (kill_any A1 1 c1 g1 b1 0 1 _ (Row.of_cells O1.out) (by omega)).mono ?_
  rintro e w2 ⟨hx, bel2⟩
  obtain ⟨A2, c2, rfl, o2⟩ := kill_ok hx may1 (by unfold HeldA; decide) (by omega)
  have O2 := Lib.hid o2
  clear o2 hx
  have t_P := P.out.below bel2
  clear P
  have P := Lib.hid t_P
  clear t_P
  have t_Q := Q.out.below bel2
  clear Q
  have Q := Lib.hid t_Q
  clear t_Q
  have t_O1 := own_below O1.out bel2
  clear O1
  have O1 := Lib.hid t_O1
  clear t_O1
  have SB3 : Below w.heap.size w w2 := SB2h.out.trans (bel2.mono SB2h.out.size)
  clear SB2h
  have SB3h := Lib.hid SB3
  clear SB3 bel2
  have lt_P := P.out.lt
  have P_0 := P.out.cell 0
  have P_f0 := P.out.frozen 0
  simp at P_0
  have lt_Q := Q.out.lt
  have Q_0 := Q.out.cell 0
  have Q_1 := Q.out.cell 1
  have Q_f0 := Q.out.frozen 0
  have Q_f1 := Q.out.frozen 1
  simp at Q_0 Q_1
  have szB_w2 := SB3h.out.size
  go_wp2_with fail
  have NE_P_S := Lib.hid (show w1.heap.size ≠ w2.heap.size by omega)
  have NE_Q_S := Lib.hid (show w1.heap.size + 1 ≠ w2.heap.size by omega)
  have s_P := P.out
  have s_Q := Q.out
  have s_O1 := O1.out
  have s_O2 := O2.out
  replace s_P := s_P.alloc (.cells #[.slice A2 1 c2] 24)
  replace s_Q := s_Q.alloc (.cells #[.slice A2 1 c2] 24)
  replace s_O1 := World.ownsRow.alloc s_O1 (.cells #[.slice A2 1 c2] 24)
  replace s_O2 := World.ownsRow.alloc s_O2 (.cells #[.slice A2 1 c2] 24)
  have s_S : HasBlk (w2.alloc (.cells #[.slice A2 1 c2] 24)) (w2.heap.size) 24 #[.slice A2 1 c2] := by simpa using hasBlk_new w2 24 #[.slice A2 1 c2]
  have t_P : HasBlk (w2.alloc (.cells #[.slice A2 1 c2] 24)) (w1.heap.size) 24 #[.slice A1 1 c1] := by simpa using s_P
  clear s_P P
  have t_Q : HasBlk (w2.alloc (.cells #[.slice A2 1 c2] 24)) (w1.heap.size + 1) 26 #[.int .i64 0, .int .i64 1] := by simpa using s_Q
  clear s_Q Q
  have t_S : HasBlk (w2.alloc (.cells #[.slice A2 1 c2] 24)) (w2.heap.size) 24 #[.slice A2 1 c2] := by simpa using s_S
  clear s_S
  have t_O1 : ((w2.alloc (.cells #[.slice A2 1 c2] 24))).ownsRow (w.heap.size) 33 2 (.slice A1 (1) (c1)) (1) (cellsR 2 (sv g1 b1) 1) := s_O1
  clear s_O1 O1
  have t_O2 : ((w2.alloc (.cells #[.slice A2 1 c2] 24))).ownsRow (v1.heap.size) 33 2 (.slice A2 (1) (c2)) (1) (cellsR 2 (sv g1 bk1) 1) := s_O2
  clear s_O2 O2
  have SB4 : Below w.heap.size w (w2.alloc (.cells #[.slice A2 1 c2] 24)) := by
    have bel0 := SB3h.out
    repeat' (first | exact Below.refl _ _ | assumption | apply Below.drew | refine Below.setCell ?_ (by first | omega | (simp; done) | (simp; omega)) _ | refine Below.alloc ?_ (by first | omega | (simp; done) | (simp; omega)) _)
  clear lt_P P_0 P_f0 lt_Q Q_0 Q_1 Q_f0 Q_f1
  generalize gW_v2 : (w2.alloc (.cells #[.slice A2 1 c2] 24)) = v2 at *
  clear gW_v2
  have P := Lib.hid t_P
  clear t_P
  have Q := Lib.hid t_Q
  clear t_Q
  have S := Lib.hid t_S
  clear t_S
  have O1 := Lib.hid t_O1
  clear t_O1
  have O2 := Lib.hid t_O2
  clear t_O2
  clear SB3h
  have SB4h := Lib.hid SB4
  clear SB4
  refine (kill_any A2 1 c2 g1 bk1 (0) (1) _ (Row.of_cells O2.out) (by omega)).mono ?_
  rintro e w3 ⟨hx, bel3⟩
  obtain rfl := kill_no hx may1 (by unfold HeldA; decide)
  clear hx
  have t_P := P.out.below bel3
  clear P
  have P := Lib.hid t_P
  clear t_P
  have t_Q := Q.out.below bel3
  clear Q
  have Q := Lib.hid t_Q
  clear t_Q
  have t_S := S.out.below bel3
  clear S
  have S := Lib.hid t_S
  clear t_S
  have t_O1 := own_below O1.out bel3
  clear O1
  have O1 := Lib.hid t_O1
  clear t_O1
  have t_O2 := own_below O2.out bel3
  clear O2
  have O2 := Lib.hid t_O2
  clear t_O2
  have SB5 : Below w.heap.size w w3 := SB4h.out.trans (bel3.mono SB4h.out.size)
  clear SB4h
  have SB5h := Lib.hid SB5
  clear SB5 bel3
  have lt_P := P.out.lt
  have P_0 := P.out.cell 0
  have P_f0 := P.out.frozen 0
  simp at P_0
  have lt_Q := Q.out.lt
  have Q_0 := Q.out.cell 0
  have Q_1 := Q.out.cell 1
  have Q_f0 := Q.out.frozen 0
  have Q_f1 := Q.out.frozen 1
  simp at Q_0 Q_1
  have lt_S := S.out.lt
  have S_0 := S.out.cell 0
  have S_f0 := S.out.frozen 0
  simp at S_0
  have szB_w3 := SB5h.out.size
  go_wp2_with fail
  have NE_P_U := Lib.hid (show w1.heap.size ≠ w3.heap.size by omega)
  have NE_Q_U := Lib.hid (show w1.heap.size + 1 ≠ w3.heap.size by omega)
  have NE_S_U := Lib.hid (show w2.heap.size ≠ w3.heap.size by omega)
  have s_P := P.out
  have s_Q := Q.out
  have s_S := S.out
  have s_O1 := O1.out
  have s_O2 := O2.out
  replace s_P := s_P.alloc (.cells #[.slice none 0 0] 24)
  replace s_Q := s_Q.alloc (.cells #[.slice none 0 0] 24)
  replace s_S := s_S.alloc (.cells #[.slice none 0 0] 24)
  replace s_O1 := World.ownsRow.alloc s_O1 (.cells #[.slice none 0 0] 24)
  replace s_O2 := World.ownsRow.alloc s_O2 (.cells #[.slice none 0 0] 24)
  have s_U : HasBlk (w3.alloc (.cells #[.slice none 0 0] 24)) (w3.heap.size) 24 #[.slice none 0 0] := by simpa using hasBlk_new w3 24 #[.slice none 0 0]
  have t_P : HasBlk (w3.alloc (.cells #[.slice none 0 0] 24)) (w1.heap.size) 24 #[.slice A1 1 c1] := by simpa using s_P
  clear s_P P
  have t_Q : HasBlk (w3.alloc (.cells #[.slice none 0 0] 24)) (w1.heap.size + 1) 26 #[.int .i64 0, .int .i64 1] := by simpa using s_Q
  clear s_Q Q
  have t_S : HasBlk (w3.alloc (.cells #[.slice none 0 0] 24)) (w2.heap.size) 24 #[.slice A2 1 c2] := by simpa using s_S
  clear s_S S
  have t_U : HasBlk (w3.alloc (.cells #[.slice none 0 0] 24)) (w3.heap.size) 24 #[.slice none 0 0] := by simpa using s_U
  clear s_U
  have t_O1 : ((w3.alloc (.cells #[.slice none 0 0] 24))).ownsRow (w.heap.size) 33 2 (.slice A1 (1) (c1)) (1) (cellsR 2 (sv g1 b1) 1) := s_O1
  clear s_O1 O1
  have t_O2 : ((w3.alloc (.cells #[.slice none 0 0] 24))).ownsRow (v1.heap.size) 33 2 (.slice A2 (1) (c2)) (1) (cellsR 2 (sv g1 bk1) 1) := s_O2
  clear s_O2 O2
  have SB6 : Below w.heap.size w (w3.alloc (.cells #[.slice none 0 0] 24)) := by
    have bel0 := SB5h.out
    repeat' (first | exact Below.refl _ _ | assumption | apply Below.drew | refine Below.setCell ?_ (by first | omega | (simp; done) | (simp; omega)) _ | refine Below.alloc ?_ (by first | omega | (simp; done) | (simp; omega)) _)
  clear lt_P P_0 P_f0 lt_Q Q_0 Q_1 Q_f0 Q_f1 lt_S S_0 S_f0
  generalize gW_v3 : (w3.alloc (.cells #[.slice none 0 0] 24)) = v3 at *
  clear gW_v3
  have P := Lib.hid t_P
  clear t_P
  have Q := Lib.hid t_Q
  clear t_Q
  have S := Lib.hid t_S
  clear t_S
  have U := Lib.hid t_U
  clear t_U
  have O1 := Lib.hid t_O1
  clear t_O1
  have O2 := Lib.hid t_O2
  clear t_O2
  clear SB5h
  have SB6h := Lib.hid SB6
  clear SB6
  refine (kill_any A1 1 c1 g1 b1 (5) (1) _ (Row.of_cells O1.out) (by omega)).mono ?_
  rintro e w4 ⟨hx, bel4⟩
  obtain rfl := kill_no hx may1 (by unfold HeldA; decide)
  clear hx
  have t_P := P.out.below bel4
  clear P
  have P := Lib.hid t_P
  clear t_P
  have t_Q := Q.out.below bel4
  clear Q
  have Q := Lib.hid t_Q
  clear t_Q
  have t_S := S.out.below bel4
  clear S
  have S := Lib.hid t_S
  clear t_S
  have t_U := U.out.below bel4
  clear U
  have U := Lib.hid t_U
  clear t_U
  have t_O1 := own_below O1.out bel4
  clear O1
  have O1 := Lib.hid t_O1
  clear t_O1
  have t_O2 := own_below O2.out bel4
  clear O2
  have O2 := Lib.hid t_O2
  clear t_O2
  have SB7 : Below w.heap.size w w4 := SB6h.out.trans (bel4.mono SB6h.out.size)
  clear SB6h
  have SB7h := Lib.hid SB7
  clear SB7 bel4
  have lt_P := P.out.lt
  have P_0 := P.out.cell 0
  have P_f0 := P.out.frozen 0
  simp at P_0
  have lt_Q := Q.out.lt
  have Q_0 := Q.out.cell 0
  have Q_1 := Q.out.cell 1
  have Q_f0 := Q.out.frozen 0
  have Q_f1 := Q.out.frozen 1
  simp at Q_0 Q_1
  have lt_S := S.out.lt
  have S_0 := S.out.cell 0
  have S_f0 := S.out.frozen 0
  simp at S_0
  have lt_U := U.out.lt
  have U_0 := U.out.cell 0
  have U_f0 := U.out.frozen 0
  simp at U_0
  have szB_w4 := SB7h.out.size
  go_wp2_with fail
  have NE_P_V := Lib.hid (show w1.heap.size ≠ w4.heap.size by omega)
  have NE_Q_V := Lib.hid (show w1.heap.size + 1 ≠ w4.heap.size by omega)
  have NE_S_V := Lib.hid (show w2.heap.size ≠ w4.heap.size by omega)
  have NE_U_V := Lib.hid (show w3.heap.size ≠ w4.heap.size by omega)
  have s_P := P.out
  have s_Q := Q.out
  have s_S := S.out
  have s_U := U.out
  have s_O1 := O1.out
  have s_O2 := O2.out
  replace s_P := s_P.alloc (.cells #[.slice none 0 0] 24)
  replace s_Q := s_Q.alloc (.cells #[.slice none 0 0] 24)
  replace s_S := s_S.alloc (.cells #[.slice none 0 0] 24)
  replace s_U := s_U.alloc (.cells #[.slice none 0 0] 24)
  replace s_O1 := World.ownsRow.alloc s_O1 (.cells #[.slice none 0 0] 24)
  replace s_O2 := World.ownsRow.alloc s_O2 (.cells #[.slice none 0 0] 24)
  have s_V : HasBlk (w4.alloc (.cells #[.slice none 0 0] 24)) (w4.heap.size) 24 #[.slice none 0 0] := by simpa using hasBlk_new w4 24 #[.slice none 0 0]
  have t_P : HasBlk (w4.alloc (.cells #[.slice none 0 0] 24)) (w1.heap.size) 24 #[.slice A1 1 c1] := by simpa using s_P
  clear s_P P
  have t_Q : HasBlk (w4.alloc (.cells #[.slice none 0 0] 24)) (w1.heap.size + 1) 26 #[.int .i64 0, .int .i64 1] := by simpa using s_Q
  clear s_Q Q
  have t_S : HasBlk (w4.alloc (.cells #[.slice none 0 0] 24)) (w2.heap.size) 24 #[.slice A2 1 c2] := by simpa using s_S
  clear s_S S
  have t_U : HasBlk (w4.alloc (.cells #[.slice none 0 0] 24)) (w3.heap.size) 24 #[.slice none 0 0] := by simpa using s_U
  clear s_U U
  have t_V : HasBlk (w4.alloc (.cells #[.slice none 0 0] 24)) (w4.heap.size) 24 #[.slice none 0 0] := by simpa using s_V
  clear s_V
  have t_O1 : ((w4.alloc (.cells #[.slice none 0 0] 24))).ownsRow (w.heap.size) 33 2 (.slice A1 (1) (c1)) (1) (cellsR 2 (sv g1 b1) 1) := s_O1
  clear s_O1 O1
  have t_O2 : ((w4.alloc (.cells #[.slice none 0 0] 24))).ownsRow (v1.heap.size) 33 2 (.slice A2 (1) (c2)) (1) (cellsR 2 (sv g1 bk1) 1) := s_O2
  clear s_O2 O2
  have SB8 : Below w.heap.size w (w4.alloc (.cells #[.slice none 0 0] 24)) := by
    have bel0 := SB7h.out
    repeat' (first | exact Below.refl _ _ | assumption | apply Below.drew | refine Below.setCell ?_ (by first | omega | (simp; done) | (simp; omega)) _ | refine Below.alloc ?_ (by first | omega | (simp; done) | (simp; omega)) _)
  clear lt_P P_0 P_f0 lt_Q Q_0 Q_1 Q_f0 Q_f1 lt_S S_0 S_f0 lt_U U_0 U_f0
  generalize gW_v4 : (w4.alloc (.cells #[.slice none 0 0] 24)) = v4 at *
  clear gW_v4
  have P := Lib.hid t_P
  clear t_P
  have Q := Lib.hid t_Q
  clear t_Q
  have S := Lib.hid t_S
  clear t_S
  have U := Lib.hid t_U
  clear t_U
  have V := Lib.hid t_V
  clear t_V
  have O1 := Lib.hid t_O1
  clear t_O1
  have O2 := Lib.hid t_O2
  clear t_O2
  clear SB7h
  have SB8h := Lib.hid SB8
  clear SB8
  refine (kill_any A1 1 c1 g1 b1 (-1) (1) _ (Row.of_cells O1.out) (by omega)).mono ?_
  rintro e w5 ⟨hx, bel5⟩
  obtain rfl := kill_no hx may1 (by unfold HeldA; decide)
  clear hx
  have t_P := P.out.below bel5
  clear P
  have P := Lib.hid t_P
  clear t_P
  have t_Q := Q.out.below bel5
  clear Q
  have Q := Lib.hid t_Q
  clear t_Q
  have t_S := S.out.below bel5
  clear S
  have S := Lib.hid t_S
  clear t_S
  have t_U := U.out.below bel5
  clear U
  have U := Lib.hid t_U
  clear t_U
  have t_V := V.out.below bel5
  clear V
  have V := Lib.hid t_V
  clear t_V
  have t_O1 := own_below O1.out bel5
  clear O1
  have O1 := Lib.hid t_O1
  clear t_O1
  have t_O2 := own_below O2.out bel5
  clear O2
  have O2 := Lib.hid t_O2
  clear t_O2
  have SB9 : Below w.heap.size w w5 := SB8h.out.trans (bel5.mono SB8h.out.size)
  clear SB8h
  have SB9h := Lib.hid SB9
  clear SB9 bel5
  have lt_P := P.out.lt
  have P_0 := P.out.cell 0
  have P_f0 := P.out.frozen 0
  simp at P_0
  have lt_Q := Q.out.lt
  have Q_0 := Q.out.cell 0
  have Q_1 := Q.out.cell 1
  have Q_f0 := Q.out.frozen 0
  have Q_f1 := Q.out.frozen 1
  simp at Q_0 Q_1
  have lt_S := S.out.lt
  have S_0 := S.out.cell 0
  have S_f0 := S.out.frozen 0
  simp at S_0
  have lt_U := U.out.lt
  have U_0 := U.out.cell 0
  have U_f0 := U.out.frozen 0
  simp at U_0
  have lt_V := V.out.lt
  have V_0 := V.out.cell 0
  have V_f0 := V.out.frozen 0
  simp at V_0
  have szB_w5 := SB9h.out.size
  go_wp2_with fail
  have NE_P_X := Lib.hid (show w1.heap.size ≠ w5.heap.size by omega)
  have NE_Q_X := Lib.hid (show w1.heap.size + 1 ≠ w5.heap.size by omega)
  have NE_S_X := Lib.hid (show w2.heap.size ≠ w5.heap.size by omega)
  have NE_U_X := Lib.hid (show w3.heap.size ≠ w5.heap.size by omega)
  have NE_V_X := Lib.hid (show w4.heap.size ≠ w5.heap.size by omega)
  have NE_P_Y := Lib.hid (show w1.heap.size ≠ w5.heap.size + 1 by omega)
  have NE_Q_Y := Lib.hid (show w1.heap.size + 1 ≠ w5.heap.size + 1 by omega)
  have NE_S_Y := Lib.hid (show w2.heap.size ≠ w5.heap.size + 1 by omega)
  have NE_U_Y := Lib.hid (show w3.heap.size ≠ w5.heap.size + 1 by omega)
  have NE_V_Y := Lib.hid (show w4.heap.size ≠ w5.heap.size + 1 by omega)
  have NE_X_Y := Lib.hid (show w5.heap.size ≠ w5.heap.size + 1 by omega)
  have NE_P_K := Lib.hid (show w1.heap.size ≠ w5.heap.size + 1 + 1 by omega)
  have NE_Q_K := Lib.hid (show w1.heap.size + 1 ≠ w5.heap.size + 1 + 1 by omega)
  have NE_S_K := Lib.hid (show w2.heap.size ≠ w5.heap.size + 1 + 1 by omega)
  have NE_U_K := Lib.hid (show w3.heap.size ≠ w5.heap.size + 1 + 1 by omega)
  have NE_V_K := Lib.hid (show w4.heap.size ≠ w5.heap.size + 1 + 1 by omega)
  have NE_X_K := Lib.hid (show w5.heap.size ≠ w5.heap.size + 1 + 1 by omega)
  have NE_Y_K := Lib.hid (show w5.heap.size + 1 ≠ w5.heap.size + 1 + 1 by omega)
  have s_P := P.out
  have s_Q := Q.out
  have s_S := S.out
  have s_U := U.out
  have s_V := V.out
  have s_O1 := O1.out
  have s_O2 := O2.out
  replace s_P := s_P.alloc (.cells #[.slice none 0 0] 24)
  replace s_Q := s_Q.alloc (.cells #[.slice none 0 0] 24)
  replace s_S := s_S.alloc (.cells #[.slice none 0 0] 24)
  replace s_U := s_U.alloc (.cells #[.slice none 0 0] 24)
  replace s_V := s_V.alloc (.cells #[.slice none 0 0] 24)
  replace s_O1 := World.ownsRow.alloc s_O1 (.cells #[.slice none 0 0] 24)
  replace s_O2 := World.ownsRow.alloc s_O2 (.cells #[.slice none 0 0] 24)
  have s_X : HasBlk (w5.alloc (.cells #[.slice none 0 0] 24)) (w5.heap.size) 24 #[.slice none 0 0] := by simpa using hasBlk_new w5 24 #[.slice none 0 0]
  replace s_P := s_P.alloc (.cells #[.int .i64 0, .bool false] 33)
  replace s_Q := s_Q.alloc (.cells #[.int .i64 0, .bool false] 33)
  replace s_S := s_S.alloc (.cells #[.int .i64 0, .bool false] 33)
  replace s_U := s_U.alloc (.cells #[.int .i64 0, .bool false] 33)
  replace s_V := s_V.alloc (.cells #[.int .i64 0, .bool false] 33)
  replace s_X := s_X.alloc (.cells #[.int .i64 0, .bool false] 33)
  replace s_O1 := World.ownsRow.alloc s_O1 (.cells #[.int .i64 0, .bool false] 33)
  replace s_O2 := World.ownsRow.alloc s_O2 (.cells #[.int .i64 0, .bool false] 33)
  have s_Y : HasBlk ((w5.alloc (.cells #[.slice none 0 0] 24)).alloc (.cells #[.int .i64 0, .bool false] 33)) (w5.heap.size + 1) 33 #[.int .i64 0, .bool false] := by simpa using hasBlk_new (w5.alloc (.cells #[.slice none 0 0] 24)) 33 #[.int .i64 0, .bool false]
  replace s_P := s_P.alloc (.cells #[.slice (some ⟨w5.heap.size + 1, 0, none⟩) 1 1] 24)
  replace s_Q := s_Q.alloc (.cells #[.slice (some ⟨w5.heap.size + 1, 0, none⟩) 1 1] 24)
  replace s_S := s_S.alloc (.cells #[.slice (some ⟨w5.heap.size + 1, 0, none⟩) 1 1] 24)
  replace s_U := s_U.alloc (.cells #[.slice (some ⟨w5.heap.size + 1, 0, none⟩) 1 1] 24)
  replace s_V := s_V.alloc (.cells #[.slice (some ⟨w5.heap.size + 1, 0, none⟩) 1 1] 24)
  replace s_X := s_X.alloc (.cells #[.slice (some ⟨w5.heap.size + 1, 0, none⟩) 1 1] 24)
  replace s_Y := s_Y.alloc (.cells #[.slice (some ⟨w5.heap.size + 1, 0, none⟩) 1 1] 24)
  replace s_O1 := World.ownsRow.alloc s_O1 (.cells #[.slice (some ⟨w5.heap.size + 1, 0, none⟩) 1 1] 24)
  replace s_O2 := World.ownsRow.alloc s_O2 (.cells #[.slice (some ⟨w5.heap.size + 1, 0, none⟩) 1 1] 24)
  have s_K : HasBlk (((w5.alloc (.cells #[.slice none 0 0] 24)).alloc (.cells #[.int .i64 0, .bool false] 33)).alloc (.cells #[.slice (some ⟨w5.heap.size + 1, 0, none⟩) 1 1] 24)) (w5.heap.size + 1 + 1) 24 #[.slice (some ⟨w5.heap.size + 1, 0, none⟩) 1 1] := by simpa using hasBlk_new ((w5.alloc (.cells #[.slice none 0 0] 24)).alloc (.cells #[.int .i64 0, .bool false] 33)) 24 #[.slice (some ⟨w5.heap.size + 1, 0, none⟩) 1 1]
  have t_P : HasBlk (((w5.alloc (.cells #[.slice none 0 0] 24)).alloc (.cells #[.int .i64 0, .bool false] 33)).alloc (.cells #[.slice (some ⟨w5.heap.size + 1, 0, none⟩) 1 1] 24)) (w1.heap.size) 24 #[.slice A1 1 c1] := by simpa using s_P
  clear s_P P
  have t_Q : HasBlk (((w5.alloc (.cells #[.slice none 0 0] 24)).alloc (.cells #[.int .i64 0, .bool false] 33)).alloc (.cells #[.slice (some ⟨w5.heap.size + 1, 0, none⟩) 1 1] 24)) (w1.heap.size + 1) 26 #[.int .i64 0, .int .i64 1] := by simpa using s_Q
  clear s_Q Q
  have t_S : HasBlk (((w5.alloc (.cells #[.slice none 0 0] 24)).alloc (.cells #[.int .i64 0, .bool false] 33)).alloc (.cells #[.slice (some ⟨w5.heap.size + 1, 0, none⟩) 1 1] 24)) (w2.heap.size) 24 #[.slice A2 1 c2] := by simpa using s_S
  clear s_S S
  have t_U : HasBlk (((w5.alloc (.cells #[.slice none 0 0] 24)).alloc (.cells #[.int .i64 0, .bool false] 33)).alloc (.cells #[.slice (some ⟨w5.heap.size + 1, 0, none⟩) 1 1] 24)) (w3.heap.size) 24 #[.slice none 0 0] := by simpa using s_U
  clear s_U U
  have t_V : HasBlk (((w5.alloc (.cells #[.slice none 0 0] 24)).alloc (.cells #[.int .i64 0, .bool false] 33)).alloc (.cells #[.slice (some ⟨w5.heap.size + 1, 0, none⟩) 1 1] 24)) (w4.heap.size) 24 #[.slice none 0 0] := by simpa using s_V
  clear s_V V
  have t_X : HasBlk (((w5.alloc (.cells #[.slice none 0 0] 24)).alloc (.cells #[.int .i64 0, .bool false] 33)).alloc (.cells #[.slice (some ⟨w5.heap.size + 1, 0, none⟩) 1 1] 24)) (w5.heap.size) 24 #[.slice none 0 0] := by simpa using s_X
  clear s_X
  have t_Y : HasBlk (((w5.alloc (.cells #[.slice none 0 0] 24)).alloc (.cells #[.int .i64 0, .bool false] 33)).alloc (.cells #[.slice (some ⟨w5.heap.size + 1, 0, none⟩) 1 1] 24)) (w5.heap.size + 1) 33 #[.int .i64 0, .bool false] := by simpa using s_Y
  clear s_Y
  have t_K : HasBlk (((w5.alloc (.cells #[.slice none 0 0] 24)).alloc (.cells #[.int .i64 0, .bool false] 33)).alloc (.cells #[.slice (some ⟨w5.heap.size + 1, 0, none⟩) 1 1] 24)) (w5.heap.size + 1 + 1) 24 #[.slice (some ⟨w5.heap.size + 1, 0, none⟩) 1 1] := by simpa using s_K
  clear s_K
  have t_O1 : ((((w5.alloc (.cells #[.slice none 0 0] 24)).alloc (.cells #[.int .i64 0, .bool false] 33)).alloc (.cells #[.slice (some ⟨w5.heap.size + 1, 0, none⟩) 1 1] 24))).ownsRow (w.heap.size) 33 2 (.slice A1 (1) (c1)) (1) (cellsR 2 (sv g1 b1) 1) := s_O1
  clear s_O1 O1
  have t_O2 : ((((w5.alloc (.cells #[.slice none 0 0] 24)).alloc (.cells #[.int .i64 0, .bool false] 33)).alloc (.cells #[.slice (some ⟨w5.heap.size + 1, 0, none⟩) 1 1] 24))).ownsRow (v1.heap.size) 33 2 (.slice A2 (1) (c2)) (1) (cellsR 2 (sv g1 bk1) 1) := s_O2
  clear s_O2 O2
  have SB10 : Below w.heap.size w (((w5.alloc (.cells #[.slice none 0 0] 24)).alloc (.cells #[.int .i64 0, .bool false] 33)).alloc (.cells #[.slice (some ⟨w5.heap.size + 1, 0, none⟩) 1 1] 24)) := by
    have bel0 := SB9h.out
    repeat' (first | exact Below.refl _ _ | assumption | apply Below.drew | refine Below.setCell ?_ (by first | omega | (simp; done) | (simp; omega)) _ | refine Below.alloc ?_ (by first | omega | (simp; done) | (simp; omega)) _)
  clear lt_P P_0 P_f0 lt_Q Q_0 Q_1 Q_f0 Q_f1 lt_S S_0 S_f0 lt_U U_0 U_f0 lt_V V_0 V_f0
  generalize gW_v5 : (((w5.alloc (.cells #[.slice none 0 0] 24)).alloc (.cells #[.int .i64 0, .bool false] 33)).alloc (.cells #[.slice (some ⟨w5.heap.size + 1, 0, none⟩) 1 1] 24)) = v5 at *
  clear gW_v5
  have P := Lib.hid t_P
  clear t_P
  have Q := Lib.hid t_Q
  clear t_Q
  have S := Lib.hid t_S
  clear t_S
  have U := Lib.hid t_U
  clear t_U
  have V := Lib.hid t_V
  clear t_V
  have X := Lib.hid t_X
  clear t_X
  have Y := Lib.hid t_Y
  clear t_Y
  have K := Lib.hid t_K
  clear t_K
  have O1 := Lib.hid t_O1
  clear t_O1
  have O2 := Lib.hid t_O2
  clear t_O2
  clear SB9h
  have SB10h := Lib.hid SB10
  clear SB10
  have HR := Lib.hid (show Row v5 (some ⟨w5.heap.size + 1, 0, none⟩) 1 2 (sv g0 b0) from (bad_row Y.out))
  refine (make_any (some ⟨w5.heap.size + 1, 0, none⟩) 1 1 g0 b0 _ HR.out (by omega)).mono ?_
  rintro e w6 ⟨hx, bel6⟩
  obtain rfl := make_bad hx nmay
  clear hx HR
  have t_P := P.out.below bel6
  clear P
  have P := Lib.hid t_P
  clear t_P
  have t_Q := Q.out.below bel6
  clear Q
  have Q := Lib.hid t_Q
  clear t_Q
  have t_S := S.out.below bel6
  clear S
  have S := Lib.hid t_S
  clear t_S
  have t_U := U.out.below bel6
  clear U
  have U := Lib.hid t_U
  clear t_U
  have t_V := V.out.below bel6
  clear V
  have V := Lib.hid t_V
  clear t_V
  have t_X := X.out.below bel6
  clear X
  have X := Lib.hid t_X
  clear t_X
  have t_Y := Y.out.below bel6
  clear Y
  have Y := Lib.hid t_Y
  clear t_Y
  have t_K := K.out.below bel6
  clear K
  have K := Lib.hid t_K
  clear t_K
  have t_O1 := own_below O1.out bel6
  clear O1
  have O1 := Lib.hid t_O1
  clear t_O1
  have t_O2 := own_below O2.out bel6
  clear O2
  have O2 := Lib.hid t_O2
  clear t_O2
  have SB11 : Below w.heap.size w w6 := SB10h.out.trans (bel6.mono SB10h.out.size)
  clear SB10h
  have SB11h := Lib.hid SB11
  clear SB11 bel6
  have lt_P := P.out.lt
  have P_0 := P.out.cell 0
  have P_f0 := P.out.frozen 0
  simp at P_0
  have lt_Q := Q.out.lt
  have Q_0 := Q.out.cell 0
  have Q_1 := Q.out.cell 1
  have Q_f0 := Q.out.frozen 0
  have Q_f1 := Q.out.frozen 1
  simp at Q_0 Q_1
  have lt_S := S.out.lt
  have S_0 := S.out.cell 0
  have S_f0 := S.out.frozen 0
  simp at S_0
  have lt_U := U.out.lt
  have U_0 := U.out.cell 0
  have U_f0 := U.out.frozen 0
  simp at U_0
  have lt_V := V.out.lt
  have V_0 := V.out.cell 0
  have V_f0 := V.out.frozen 0
  simp at V_0
  have lt_X := X.out.lt
  have X_0 := X.out.cell 0
  have X_f0 := X.out.frozen 0
  simp at X_0
  have lt_Y := Y.out.lt
  have Y_0 := Y.out.cell 0
  have Y_1 := Y.out.cell 1
  have Y_f0 := Y.out.frozen 0
  have Y_f1 := Y.out.frozen 1
  simp at Y_0 Y_1
  have lt_K := K.out.lt
  have K_0 := K.out.cell 0
  have K_f0 := K.out.frozen 0
  simp at K_0
  have szB_w6 := SB11h.out.size
  go_wp2_with fail
  have NE_P_M1 := Lib.hid (show w1.heap.size ≠ w6.heap.size by omega)
  have NE_Q_M1 := Lib.hid (show w1.heap.size + 1 ≠ w6.heap.size by omega)
  have NE_S_M1 := Lib.hid (show w2.heap.size ≠ w6.heap.size by omega)
  have NE_U_M1 := Lib.hid (show w3.heap.size ≠ w6.heap.size by omega)
  have NE_V_M1 := Lib.hid (show w4.heap.size ≠ w6.heap.size by omega)
  have NE_X_M1 := Lib.hid (show w5.heap.size ≠ w6.heap.size by omega)
  have NE_Y_M1 := Lib.hid (show w5.heap.size + 1 ≠ w6.heap.size by omega)
  have NE_K_M1 := Lib.hid (show w5.heap.size + 1 + 1 ≠ w6.heap.size by omega)
  have NE_P_M2 := Lib.hid (show w1.heap.size ≠ w6.heap.size + 1 by omega)
  have NE_Q_M2 := Lib.hid (show w1.heap.size + 1 ≠ w6.heap.size + 1 by omega)
  have NE_S_M2 := Lib.hid (show w2.heap.size ≠ w6.heap.size + 1 by omega)
  have NE_U_M2 := Lib.hid (show w3.heap.size ≠ w6.heap.size + 1 by omega)
  have NE_V_M2 := Lib.hid (show w4.heap.size ≠ w6.heap.size + 1 by omega)
  have NE_X_M2 := Lib.hid (show w5.heap.size ≠ w6.heap.size + 1 by omega)
  have NE_Y_M2 := Lib.hid (show w5.heap.size + 1 ≠ w6.heap.size + 1 by omega)
  have NE_K_M2 := Lib.hid (show w5.heap.size + 1 + 1 ≠ w6.heap.size + 1 by omega)
  have NE_M1_M2 := Lib.hid (show w6.heap.size ≠ w6.heap.size + 1 by omega)
  have s_P := P.out
  have s_Q := Q.out
  have s_S := S.out
  have s_U := U.out
  have s_V := V.out
  have s_X := X.out
  have s_Y := Y.out
  have s_K := K.out
  have s_O1 := O1.out
  have s_O2 := O2.out
  replace s_P := s_P.alloc (.cells #[.slice none 0 0] 24)
  replace s_Q := s_Q.alloc (.cells #[.slice none 0 0] 24)
  replace s_S := s_S.alloc (.cells #[.slice none 0 0] 24)
  replace s_U := s_U.alloc (.cells #[.slice none 0 0] 24)
  replace s_V := s_V.alloc (.cells #[.slice none 0 0] 24)
  replace s_X := s_X.alloc (.cells #[.slice none 0 0] 24)
  replace s_Y := s_Y.alloc (.cells #[.slice none 0 0] 24)
  replace s_K := s_K.alloc (.cells #[.slice none 0 0] 24)
  replace s_O1 := World.ownsRow.alloc s_O1 (.cells #[.slice none 0 0] 24)
  replace s_O2 := World.ownsRow.alloc s_O2 (.cells #[.slice none 0 0] 24)
  have s_M1 : HasBlk (w6.alloc (.cells #[.slice none 0 0] 24)) (w6.heap.size) 24 #[.slice none 0 0] := by simpa using hasBlk_new w6 24 #[.slice none 0 0]
  replace s_P := s_P.alloc (.cells #[.int .i64 0, .int .i64 0] 26)
  replace s_Q := s_Q.alloc (.cells #[.int .i64 0, .int .i64 0] 26)
  replace s_S := s_S.alloc (.cells #[.int .i64 0, .int .i64 0] 26)
  replace s_U := s_U.alloc (.cells #[.int .i64 0, .int .i64 0] 26)
  replace s_V := s_V.alloc (.cells #[.int .i64 0, .int .i64 0] 26)
  replace s_X := s_X.alloc (.cells #[.int .i64 0, .int .i64 0] 26)
  replace s_Y := s_Y.alloc (.cells #[.int .i64 0, .int .i64 0] 26)
  replace s_K := s_K.alloc (.cells #[.int .i64 0, .int .i64 0] 26)
  replace s_M1 := s_M1.alloc (.cells #[.int .i64 0, .int .i64 0] 26)
  replace s_O1 := World.ownsRow.alloc s_O1 (.cells #[.int .i64 0, .int .i64 0] 26)
  replace s_O2 := World.ownsRow.alloc s_O2 (.cells #[.int .i64 0, .int .i64 0] 26)
  have s_M2 : HasBlk ((w6.alloc (.cells #[.slice none 0 0] 24)).alloc (.cells #[.int .i64 0, .int .i64 0] 26)) (w6.heap.size + 1) 26 #[.int .i64 0, .int .i64 0] := by simpa using hasBlk_new (w6.alloc (.cells #[.slice none 0 0] 24)) 26 #[.int .i64 0, .int .i64 0]
  have t_P : HasBlk ((w6.alloc (.cells #[.slice none 0 0] 24)).alloc (.cells #[.int .i64 0, .int .i64 0] 26)) (w1.heap.size) 24 #[.slice A1 1 c1] := by simpa using s_P
  clear s_P P
  have t_Q : HasBlk ((w6.alloc (.cells #[.slice none 0 0] 24)).alloc (.cells #[.int .i64 0, .int .i64 0] 26)) (w1.heap.size + 1) 26 #[.int .i64 0, .int .i64 1] := by simpa using s_Q
  clear s_Q Q
  have t_S : HasBlk ((w6.alloc (.cells #[.slice none 0 0] 24)).alloc (.cells #[.int .i64 0, .int .i64 0] 26)) (w2.heap.size) 24 #[.slice A2 1 c2] := by simpa using s_S
  clear s_S S
  have t_U : HasBlk ((w6.alloc (.cells #[.slice none 0 0] 24)).alloc (.cells #[.int .i64 0, .int .i64 0] 26)) (w3.heap.size) 24 #[.slice none 0 0] := by simpa using s_U
  clear s_U U
  have t_V : HasBlk ((w6.alloc (.cells #[.slice none 0 0] 24)).alloc (.cells #[.int .i64 0, .int .i64 0] 26)) (w4.heap.size) 24 #[.slice none 0 0] := by simpa using s_V
  clear s_V V
  have t_X : HasBlk ((w6.alloc (.cells #[.slice none 0 0] 24)).alloc (.cells #[.int .i64 0, .int .i64 0] 26)) (w5.heap.size) 24 #[.slice none 0 0] := by simpa using s_X
  clear s_X X
  have t_Y : HasBlk ((w6.alloc (.cells #[.slice none 0 0] 24)).alloc (.cells #[.int .i64 0, .int .i64 0] 26)) (w5.heap.size + 1) 33 #[.int .i64 0, .bool false] := by simpa using s_Y
  clear s_Y Y
  have t_K : HasBlk ((w6.alloc (.cells #[.slice none 0 0] 24)).alloc (.cells #[.int .i64 0, .int .i64 0] 26)) (w5.heap.size + 1 + 1) 24 #[.slice (some ⟨w5.heap.size + 1, 0, none⟩) 1 1] := by simpa using s_K
  clear s_K K
  have t_M1 : HasBlk ((w6.alloc (.cells #[.slice none 0 0] 24)).alloc (.cells #[.int .i64 0, .int .i64 0] 26)) (w6.heap.size) 24 #[.slice none 0 0] := by simpa using s_M1
  clear s_M1
  have t_M2 : HasBlk ((w6.alloc (.cells #[.slice none 0 0] 24)).alloc (.cells #[.int .i64 0, .int .i64 0] 26)) (w6.heap.size + 1) 26 #[.int .i64 0, .int .i64 0] := by simpa using s_M2
  clear s_M2
  have t_O1 : (((w6.alloc (.cells #[.slice none 0 0] 24)).alloc (.cells #[.int .i64 0, .int .i64 0] 26))).ownsRow (w.heap.size) 33 2 (.slice A1 (1) (c1)) (1) (cellsR 2 (sv g1 b1) 1) := s_O1
  clear s_O1 O1
  have t_O2 : (((w6.alloc (.cells #[.slice none 0 0] 24)).alloc (.cells #[.int .i64 0, .int .i64 0] 26))).ownsRow (v1.heap.size) 33 2 (.slice A2 (1) (c2)) (1) (cellsR 2 (sv g1 bk1) 1) := s_O2
  clear s_O2 O2
  have SB12 : Below w.heap.size w ((w6.alloc (.cells #[.slice none 0 0] 24)).alloc (.cells #[.int .i64 0, .int .i64 0] 26)) := by
    have bel0 := SB11h.out
    repeat' (first | exact Below.refl _ _ | assumption | apply Below.drew | refine Below.setCell ?_ (by first | omega | (simp; done) | (simp; omega)) _ | refine Below.alloc ?_ (by first | omega | (simp; done) | (simp; omega)) _)
  clear lt_P P_0 P_f0 lt_Q Q_0 Q_1 Q_f0 Q_f1 lt_S S_0 S_f0 lt_U U_0 U_f0 lt_V V_0 V_f0 lt_X X_0 X_f0 lt_Y Y_0 Y_1 Y_f0 Y_f1 lt_K K_0 K_f0
  generalize gW_v6 : ((w6.alloc (.cells #[.slice none 0 0] 24)).alloc (.cells #[.int .i64 0, .int .i64 0] 26)) = v6 at *
  clear gW_v6
  have P := Lib.hid t_P
  clear t_P
  have Q := Lib.hid t_Q
  clear t_Q
  have S := Lib.hid t_S
  clear t_S
  have U := Lib.hid t_U
  clear t_U
  have V := Lib.hid t_V
  clear t_V
  have X := Lib.hid t_X
  clear t_X
  have Y := Lib.hid t_Y
  clear t_Y
  have K := Lib.hid t_K
  clear t_K
  have M1 := Lib.hid t_M1
  clear t_M1
  have M2 := Lib.hid t_M2
  clear t_M2
  have O1 := Lib.hid t_O1
  clear t_O1
  have O2 := Lib.hid t_O2
  clear t_O2
  clear SB11h
  have SB12h := Lib.hid SB12
  clear SB12
  refine (alive_any _).mono ?_
  rintro e w7 ⟨rfl, bel7⟩
  have t_P := P.out.below bel7
  clear P
  have P := Lib.hid t_P
  clear t_P
  have t_Q := Q.out.below bel7
  clear Q
  have Q := Lib.hid t_Q
  clear t_Q
  have t_S := S.out.below bel7
  clear S
  have S := Lib.hid t_S
  clear t_S
  have t_U := U.out.below bel7
  clear U
  have U := Lib.hid t_U
  clear t_U
  have t_V := V.out.below bel7
  clear V
  have V := Lib.hid t_V
  clear t_V
  have t_X := X.out.below bel7
  clear X
  have X := Lib.hid t_X
  clear t_X
  have t_Y := Y.out.below bel7
  clear Y
  have Y := Lib.hid t_Y
  clear t_Y
  have t_K := K.out.below bel7
  clear K
  have K := Lib.hid t_K
  clear t_K
  have t_M1 := M1.out.below bel7
  clear M1
  have M1 := Lib.hid t_M1
  clear t_M1
  have t_M2 := M2.out.below bel7
  clear M2
  have M2 := Lib.hid t_M2
  clear t_M2
  have t_O1 := own_below O1.out bel7
  clear O1
  have O1 := Lib.hid t_O1
  clear t_O1
  have t_O2 := own_below O2.out bel7
  clear O2
  have O2 := Lib.hid t_O2
  clear t_O2
  have SB13 : Below w.heap.size w w7 := SB12h.out.trans (bel7.mono SB12h.out.size)
  clear SB12h
  have SB13h := Lib.hid SB13
  clear SB13 bel7
  have lt_P := P.out.lt
  have P_0 := P.out.cell 0
  have P_f0 := P.out.frozen 0
  simp at P_0
  have lt_Q := Q.out.lt
  have Q_0 := Q.out.cell 0
  have Q_1 := Q.out.cell 1
  have Q_f0 := Q.out.frozen 0
  have Q_f1 := Q.out.frozen 1
  simp at Q_0 Q_1
  have lt_S := S.out.lt
  have S_0 := S.out.cell 0
  have S_f0 := S.out.frozen 0
  simp at S_0
  have lt_U := U.out.lt
  have U_0 := U.out.cell 0
  have U_f0 := U.out.frozen 0
  simp at U_0
  have lt_V := V.out.lt
  have V_0 := V.out.cell 0
  have V_f0 := V.out.frozen 0
  simp at V_0
  have lt_X := X.out.lt
  have X_0 := X.out.cell 0
  have X_f0 := X.out.frozen 0
  simp at X_0
  have lt_Y := Y.out.lt
  have Y_0 := Y.out.cell 0
  have Y_1 := Y.out.cell 1
  have Y_f0 := Y.out.frozen 0
  have Y_f1 := Y.out.frozen 1
  simp at Y_0 Y_1
  have lt_K := K.out.lt
  have K_0 := K.out.cell 0
  have K_f0 := K.out.frozen 0
  simp at K_0
  have lt_M1 := M1.out.lt
  have M1_0 := M1.out.cell 0
  have M1_f0 := M1.out.frozen 0
  simp at M1_0
  have lt_M2 := M2.out.lt
  have M2_0 := M2.out.cell 0
  have M2_1 := M2.out.cell 1
  have M2_f0 := M2.out.frozen 0
  have M2_f1 := M2.out.frozen 1
  simp at M2_0 M2_1
  have szB_w7 := SB13h.out.size
  go_wp2_with fail
  clear lt_P P_0 P_f0 lt_Q Q_0 Q_1 Q_f0 Q_f1 lt_S S_0 S_f0 lt_U U_0 U_f0 lt_V V_0 V_f0 lt_X X_0 X_f0 lt_Y Y_0 Y_1 Y_f0 Y_f1 lt_K K_0 K_f0 lt_M1 M1_0 M1_f0 lt_M2 M2_0 M2_1 M2_f0 M2_f1
  have HR := Lib.hid (show Row w7 (some ⟨w5.heap.size + 1, 0, none⟩) 1 2 (sv g0 b0) from (bad_row Y.out))
  refine (check_bad (some ⟨w5.heap.size + 1, 0, none⟩) 1 1 g0 b0 _ HR.out (by omega) nmay).mono ?_
  rintro e w8 ⟨rfl, bel8⟩
  clear HR
  have t_P := P.out.below bel8
  clear P
  have P := Lib.hid t_P
  clear t_P
  have t_Q := Q.out.below bel8
  clear Q
  have Q := Lib.hid t_Q
  clear t_Q
  have t_S := S.out.below bel8
  clear S
  have S := Lib.hid t_S
  clear t_S
  have t_U := U.out.below bel8
  clear U
  have U := Lib.hid t_U
  clear t_U
  have t_V := V.out.below bel8
  clear V
  have V := Lib.hid t_V
  clear t_V
  have t_X := X.out.below bel8
  clear X
  have X := Lib.hid t_X
  clear t_X
  have t_Y := Y.out.below bel8
  clear Y
  have Y := Lib.hid t_Y
  clear t_Y
  have t_K := K.out.below bel8
  clear K
  have K := Lib.hid t_K
  clear t_K
  have t_M1 := M1.out.below bel8
  clear M1
  have M1 := Lib.hid t_M1
  clear t_M1
  have t_M2 := M2.out.below bel8
  clear M2
  have M2 := Lib.hid t_M2
  clear t_M2
  have t_O1 := own_below O1.out bel8
  clear O1
  have O1 := Lib.hid t_O1
  clear t_O1
  have t_O2 := own_below O2.out bel8
  clear O2
  have O2 := Lib.hid t_O2
  clear t_O2
  have SB14 : Below w.heap.size w w8 := SB13h.out.trans (bel8.mono SB13h.out.size)
  clear SB13h
  have SB14h := Lib.hid SB14
  clear SB14 bel8
  have lt_P := P.out.lt
  have P_0 := P.out.cell 0
  have P_f0 := P.out.frozen 0
  simp at P_0
  have lt_Q := Q.out.lt
  have Q_0 := Q.out.cell 0
  have Q_1 := Q.out.cell 1
  have Q_f0 := Q.out.frozen 0
  have Q_f1 := Q.out.frozen 1
  simp at Q_0 Q_1
  have lt_S := S.out.lt
  have S_0 := S.out.cell 0
  have S_f0 := S.out.frozen 0
  simp at S_0
  have lt_U := U.out.lt
  have U_0 := U.out.cell 0
  have U_f0 := U.out.frozen 0
  simp at U_0
  have lt_V := V.out.lt
  have V_0 := V.out.cell 0
  have V_f0 := V.out.frozen 0
  simp at V_0
  have lt_X := X.out.lt
  have X_0 := X.out.cell 0
  have X_f0 := X.out.frozen 0
  simp at X_0
  have lt_Y := Y.out.lt
  have Y_0 := Y.out.cell 0
  have Y_1 := Y.out.cell 1
  have Y_f0 := Y.out.frozen 0
  have Y_f1 := Y.out.frozen 1
  simp at Y_0 Y_1
  have lt_K := K.out.lt
  have K_0 := K.out.cell 0
  have K_f0 := K.out.frozen 0
  simp at K_0
  have lt_M1 := M1.out.lt
  have M1_0 := M1.out.cell 0
  have M1_f0 := M1.out.frozen 0
  simp at M1_0
  have lt_M2 := M2.out.lt
  have M2_0 := M2.out.cell 0
  have M2_1 := M2.out.cell 1
  have M2_f0 := M2.out.frozen 0
  have M2_f1 := M2.out.frozen 1
  simp at M2_0 M2_1
  have szB_w8 := SB14h.out.size
  go_wp2_with fail
  clear lt_P P_0 P_f0 lt_Q Q_0 Q_1 Q_f0 Q_f1 lt_S S_0 S_f0 lt_U U_0 U_f0 lt_V V_0 V_f0 lt_X X_0 X_f0 lt_Y Y_0 Y_1 Y_f0 Y_f1 lt_K K_0 K_f0 lt_M1 M1_0 M1_f0 lt_M2 M2_0 M2_1 M2_f0 M2_f1
  refine (check_ok none 0 0 g0 b0 _ (Row.zero _ _ _ _) may0).mono ?_
  rintro e w9 ⟨rfl, bel9⟩
  have t_P := P.out.below bel9
  clear P
  have P := Lib.hid t_P
  clear t_P
  have t_Q := Q.out.below bel9
  clear Q
  have Q := Lib.hid t_Q
  clear t_Q
  have t_S := S.out.below bel9
  clear S
  have S := Lib.hid t_S
  clear t_S
  have t_U := U.out.below bel9
  clear U
  have U := Lib.hid t_U
  clear t_U
  have t_V := V.out.below bel9
  clear V
  have V := Lib.hid t_V
  clear t_V
  have t_X := X.out.below bel9
  clear X
  have X := Lib.hid t_X
  clear t_X
  have t_Y := Y.out.below bel9
  clear Y
  have Y := Lib.hid t_Y
  clear t_Y
  have t_K := K.out.below bel9
  clear K
  have K := Lib.hid t_K
  clear t_K
  have t_M1 := M1.out.below bel9
  clear M1
  have M1 := Lib.hid t_M1
  clear t_M1
  have t_M2 := M2.out.below bel9
  clear M2
  have M2 := Lib.hid t_M2
  clear t_M2
  have t_O1 := own_below O1.out bel9
  clear O1
  have O1 := Lib.hid t_O1
  clear t_O1
  have t_O2 := own_below O2.out bel9
  clear O2
  have O2 := Lib.hid t_O2
  clear t_O2
  have SB15 : Below w.heap.size w w9 := SB14h.out.trans (bel9.mono SB14h.out.size)
  clear SB14h
  have SB15h := Lib.hid SB15
  clear SB15 bel9
  have lt_P := P.out.lt
  have P_0 := P.out.cell 0
  have P_f0 := P.out.frozen 0
  simp at P_0
  have lt_Q := Q.out.lt
  have Q_0 := Q.out.cell 0
  have Q_1 := Q.out.cell 1
  have Q_f0 := Q.out.frozen 0
  have Q_f1 := Q.out.frozen 1
  simp at Q_0 Q_1
  have lt_S := S.out.lt
  have S_0 := S.out.cell 0
  have S_f0 := S.out.frozen 0
  simp at S_0
  have lt_U := U.out.lt
  have U_0 := U.out.cell 0
  have U_f0 := U.out.frozen 0
  simp at U_0
  have lt_V := V.out.lt
  have V_0 := V.out.cell 0
  have V_f0 := V.out.frozen 0
  simp at V_0
  have lt_X := X.out.lt
  have X_0 := X.out.cell 0
  have X_f0 := X.out.frozen 0
  simp at X_0
  have lt_Y := Y.out.lt
  have Y_0 := Y.out.cell 0
  have Y_1 := Y.out.cell 1
  have Y_f0 := Y.out.frozen 0
  have Y_f1 := Y.out.frozen 1
  simp at Y_0 Y_1
  have lt_K := K.out.lt
  have K_0 := K.out.cell 0
  have K_f0 := K.out.frozen 0
  simp at K_0
  have lt_M1 := M1.out.lt
  have M1_0 := M1.out.cell 0
  have M1_f0 := M1.out.frozen 0
  simp at M1_0
  have lt_M2 := M2.out.lt
  have M2_0 := M2.out.cell 0
  have M2_1 := M2.out.cell 1
  have M2_f0 := M2.out.frozen 0
  have M2_f1 := M2.out.frozen 1
  simp at M2_0 M2_1
  have szB_w9 := SB15h.out.size
  go_wp2
  go_ret
  exact ⟨rfl, SB15h.out⟩
end Go.Proofs.Ytapibgpjfliifaa
