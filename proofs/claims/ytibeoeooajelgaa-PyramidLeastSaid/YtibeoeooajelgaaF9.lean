/- FrameNews: the walk; how its arguments read. -/
import Derived.Test.YtibeoeooajelgaaF8
import Derived.Test.YtibeoeooajelgaaRd
namespace Go.Proofs.Ytibeoeooajelgaa
open Go.RowKit
set_option linter.unusedVariables false
theorem EqR.tt {p : Prop} {e : Ending} (h : EqR p e) (hp : p) : e = .returned (.bool true) := by
  obtain ⟨r, rfl, hr⟩ := h
  rw [hr.2 hp]
theorem NewV.same {W H : Int} {c : Nat → Int} {f g : FD} {x y : Int} (h : NewV W H c f x) (k : NewV W H c g y) : f = g ∧ x = y := by
  rcases h with ⟨h, rfl, n, hn, rfl⟩ | ⟨h, rfl, rfl⟩ <;> rcases k with ⟨k, rfl, m, hm, rfl⟩ | ⟨k, rfl, rfl⟩
  · have : n = m := by omega
    subst this
    exact ⟨rfl, rfl⟩
  · exact absurd h k
  · exact absurd k h
  · exact ⟨rfl, rfl⟩
theorem NewV.bound {W H : Int} {c : Nat → Int} {f : FD} {x : Int} (h : NewV W H c f x) : (f.nc : Int) ≤ 9223372036854775807 ∧ (f.nd : Int) ≤ 9223372036854775807 ∧ (f.ni : Int) ≤ 9223372036854775807 ∧ (f.nt : Int) ≤ 9223372036854775807 := by
  rcases h with ⟨⟨a, b, c, d⟩, rfl, n, hn, rfl⟩ | ⟨h, rfl, rfl⟩
  · have := mul_bound a b c d
    have hb : (n : Int) ≤ 9223372036854775807 := by omega
    exact ⟨hb, hb, hb, hb⟩
  · exact ⟨by decide, by decide, by decide, by decide⟩

set_option maxRecDepth 100000 in
set_option maxHeartbeats 4000000 in
theorem frameNews_walk (W H : Int) (c : Nat → Int) (d i t p u v d' i' t' p' u' v' : Int) (w : World) :
    Calls Try.prog 3 #[.int .i64 W, .int .i64 H, .agg #[.int .u8 (c 0), .int .u8 (c 1), .int .u8 (c 2), .int .u8 (c 3)], .agg #[.int .i64 d, .int .i64 i, .int .i64 t, .int .i64 p, .int .i64 u, .int .i64 v], .agg #[.int .i64 d', .int .i64 i', .int .i64 t', .int .i64 p', .int .i64 u', .int .i64 v']] w fun e w' => e = .returned (.bool true) ∧ Below w.heap.size w w' := by
  go_enter Try.func3, Try.ntmps3
  go_wp2_with fail
  have NE_K_A := Lib.hid (show w.heap.size ≠ w.heap.size + 1 by omega)
  have NE_K_B := Lib.hid (show w.heap.size ≠ w.heap.size + 1 + 1 by omega)
  have NE_A_B := Lib.hid (show w.heap.size + 1 ≠ w.heap.size + 1 + 1 by omega)
  have s_K : HasBlk (w.alloc (.cells #[.int .u8 (c 0), .int .u8 (c 1), .int .u8 (c 2), .int .u8 (c 3)] 23)) (w.heap.size) 23 #[.int .u8 (c 0), .int .u8 (c 1), .int .u8 (c 2), .int .u8 (c 3)] := by simpa using hasBlk_new w 23 #[.int .u8 (c 0), .int .u8 (c 1), .int .u8 (c 2), .int .u8 (c 3)]
  replace s_K := s_K.alloc (.cells #[.int .i64 d, .int .i64 i, .int .i64 t, .int .i64 p, .int .i64 u, .int .i64 v] 25)
  have s_A : HasBlk ((w.alloc (.cells #[.int .u8 (c 0), .int .u8 (c 1), .int .u8 (c 2), .int .u8 (c 3)] 23)).alloc (.cells #[.int .i64 d, .int .i64 i, .int .i64 t, .int .i64 p, .int .i64 u, .int .i64 v] 25)) (w.heap.size + 1) 25 #[.int .i64 d, .int .i64 i, .int .i64 t, .int .i64 p, .int .i64 u, .int .i64 v] := by simpa using hasBlk_new (w.alloc (.cells #[.int .u8 (c 0), .int .u8 (c 1), .int .u8 (c 2), .int .u8 (c 3)] 23)) 25 #[.int .i64 d, .int .i64 i, .int .i64 t, .int .i64 p, .int .i64 u, .int .i64 v]
  replace s_K := s_K.alloc (.cells #[.int .i64 d', .int .i64 i', .int .i64 t', .int .i64 p', .int .i64 u', .int .i64 v'] 25)
  replace s_A := s_A.alloc (.cells #[.int .i64 d', .int .i64 i', .int .i64 t', .int .i64 p', .int .i64 u', .int .i64 v'] 25)
  have s_B : HasBlk (((w.alloc (.cells #[.int .u8 (c 0), .int .u8 (c 1), .int .u8 (c 2), .int .u8 (c 3)] 23)).alloc (.cells #[.int .i64 d, .int .i64 i, .int .i64 t, .int .i64 p, .int .i64 u, .int .i64 v] 25)).alloc (.cells #[.int .i64 d', .int .i64 i', .int .i64 t', .int .i64 p', .int .i64 u', .int .i64 v'] 25)) (w.heap.size + 1 + 1) 25 #[.int .i64 d', .int .i64 i', .int .i64 t', .int .i64 p', .int .i64 u', .int .i64 v'] := by simpa using hasBlk_new ((w.alloc (.cells #[.int .u8 (c 0), .int .u8 (c 1), .int .u8 (c 2), .int .u8 (c 3)] 23)).alloc (.cells #[.int .i64 d, .int .i64 i, .int .i64 t, .int .i64 p, .int .i64 u, .int .i64 v] 25)) 25 #[.int .i64 d', .int .i64 i', .int .i64 t', .int .i64 p', .int .i64 u', .int .i64 v']
  have t_K : HasBlk (((w.alloc (.cells #[.int .u8 (c 0), .int .u8 (c 1), .int .u8 (c 2), .int .u8 (c 3)] 23)).alloc (.cells #[.int .i64 d, .int .i64 i, .int .i64 t, .int .i64 p, .int .i64 u, .int .i64 v] 25)).alloc (.cells #[.int .i64 d', .int .i64 i', .int .i64 t', .int .i64 p', .int .i64 u', .int .i64 v'] 25)) (w.heap.size) 23 #[.int .u8 (c 0), .int .u8 (c 1), .int .u8 (c 2), .int .u8 (c 3)] := by simpa using s_K
  clear s_K
  have t_A : HasBlk (((w.alloc (.cells #[.int .u8 (c 0), .int .u8 (c 1), .int .u8 (c 2), .int .u8 (c 3)] 23)).alloc (.cells #[.int .i64 d, .int .i64 i, .int .i64 t, .int .i64 p, .int .i64 u, .int .i64 v] 25)).alloc (.cells #[.int .i64 d', .int .i64 i', .int .i64 t', .int .i64 p', .int .i64 u', .int .i64 v'] 25)) (w.heap.size + 1) 25 #[.int .i64 d, .int .i64 i, .int .i64 t, .int .i64 p, .int .i64 u, .int .i64 v] := by simpa using s_A
  clear s_A
  have t_B : HasBlk (((w.alloc (.cells #[.int .u8 (c 0), .int .u8 (c 1), .int .u8 (c 2), .int .u8 (c 3)] 23)).alloc (.cells #[.int .i64 d, .int .i64 i, .int .i64 t, .int .i64 p, .int .i64 u, .int .i64 v] 25)).alloc (.cells #[.int .i64 d', .int .i64 i', .int .i64 t', .int .i64 p', .int .i64 u', .int .i64 v'] 25)) (w.heap.size + 1 + 1) 25 #[.int .i64 d', .int .i64 i', .int .i64 t', .int .i64 p', .int .i64 u', .int .i64 v'] := by simpa using s_B
  clear s_B
  have SB1 : Below w.heap.size w (((w.alloc (.cells #[.int .u8 (c 0), .int .u8 (c 1), .int .u8 (c 2), .int .u8 (c 3)] 23)).alloc (.cells #[.int .i64 d, .int .i64 i, .int .i64 t, .int .i64 p, .int .i64 u, .int .i64 v] 25)).alloc (.cells #[.int .i64 d', .int .i64 i', .int .i64 t', .int .i64 p', .int .i64 u', .int .i64 v'] 25)) := by
    repeat' (first | exact Below.refl _ _ | assumption | apply Below.drew | refine Below.setCell ?_ (by first | omega | (simp; done) | (simp; omega)) _ | refine Below.alloc ?_ (by first | omega | (simp; done) | (simp; omega)) _)
  generalize gW_v0 : (((w.alloc (.cells #[.int .u8 (c 0), .int .u8 (c 1), .int .u8 (c 2), .int .u8 (c 3)] 23)).alloc (.cells #[.int .i64 d, .int .i64 i, .int .i64 t, .int .i64 p, .int .i64 u, .int .i64 v] 25)).alloc (.cells #[.int .i64 d', .int .i64 i', .int .i64 t', .int .i64 p', .int .i64 u', .int .i64 v'] 25)) = v0 at *
  clear gW_v0
  have K := Lib.hid t_K
  clear t_K
  have A := Lib.hid t_A
  clear t_A
  have B := Lib.hid t_B
  clear t_B
  have SB1h := Lib.hid SB1
  clear SB1
  refine (new_any W H c _).mono ?_
  rintro e w1 ⟨⟨p1, f, x, rfl, hok, hv⟩, bel1⟩
  have F1 := Lib.hid hok
  have V1 := Lib.hid hv
  clear hok hv
  have t_K := K.out.below bel1
  clear K
  have K := Lib.hid t_K
  clear t_K
  have t_A := A.out.below bel1
  clear A
  have A := Lib.hid t_A
  clear t_A
  have t_B := B.out.below bel1
  clear B
  have B := Lib.hid t_B
  clear t_B
  have SB2 : Below w.heap.size w w1 := SB1h.out.trans (bel1.mono SB1h.out.size)
  clear SB1h
  have SB2h := Lib.hid SB2
  clear SB2 bel1
  have lt_K := K.out.lt
  have K_0 := K.out.cell 0
  have K_1 := K.out.cell 1
  have K_2 := K.out.cell 2
  have K_3 := K.out.cell 3
  simp at K_0 K_1 K_2 K_3
  have lt_A := A.out.lt
  have A_0 := A.out.cell 0
  have A_1 := A.out.cell 1
  have A_2 := A.out.cell 2
  have A_3 := A.out.cell 3
  have A_4 := A.out.cell 4
  have A_5 := A.out.cell 5
  simp at A_0 A_1 A_2 A_3 A_4 A_5
  have lt_B := B.out.lt
  have B_0 := B.out.cell 0
  have B_1 := B.out.cell 1
  have B_2 := B.out.cell 2
  have B_3 := B.out.cell 3
  have B_4 := B.out.cell 4
  have B_5 := B.out.cell 5
  simp at B_0 B_1 B_2 B_3 B_4 B_5
  have szB_w1 := SB2h.out.size
  go_wp2_with fail
  have F1a := F1.out.below ((Below.refl w1.heap.size w1).alloc (Nat.le_refl _) (.cells #[.int .i64 f.W, .int .i64 f.H, .slice p1.ac f.nc p1.kc, .slice p1.ad f.nd p1.kd, .slice p1.ai f.ni p1.ki, .slice p1.a4 f.nt p1.kt] 29))
  clear F1
  have NE_K_X := Lib.hid (show w.heap.size ≠ w1.heap.size by omega)
  have NE_A_X := Lib.hid (show w.heap.size + 1 ≠ w1.heap.size by omega)
  have NE_B_X := Lib.hid (show w.heap.size + 1 + 1 ≠ w1.heap.size by omega)
  have s_K := K.out
  have s_A := A.out
  have s_B := B.out
  replace s_K := s_K.alloc (.cells #[.int .i64 f.W, .int .i64 f.H, .slice p1.ac f.nc p1.kc, .slice p1.ad f.nd p1.kd, .slice p1.ai f.ni p1.ki, .slice p1.a4 f.nt p1.kt] 29)
  replace s_A := s_A.alloc (.cells #[.int .i64 f.W, .int .i64 f.H, .slice p1.ac f.nc p1.kc, .slice p1.ad f.nd p1.kd, .slice p1.ai f.ni p1.ki, .slice p1.a4 f.nt p1.kt] 29)
  replace s_B := s_B.alloc (.cells #[.int .i64 f.W, .int .i64 f.H, .slice p1.ac f.nc p1.kc, .slice p1.ad f.nd p1.kd, .slice p1.ai f.ni p1.ki, .slice p1.a4 f.nt p1.kt] 29)
  have s_X : HasBlk (w1.alloc (.cells #[.int .i64 f.W, .int .i64 f.H, .slice p1.ac f.nc p1.kc, .slice p1.ad f.nd p1.kd, .slice p1.ai f.ni p1.ki, .slice p1.a4 f.nt p1.kt] 29)) (w1.heap.size) 29 #[.int .i64 f.W, .int .i64 f.H, .slice p1.ac f.nc p1.kc, .slice p1.ad f.nd p1.kd, .slice p1.ai f.ni p1.ki, .slice p1.a4 f.nt p1.kt] := by simpa using hasBlk_new w1 29 #[.int .i64 f.W, .int .i64 f.H, .slice p1.ac f.nc p1.kc, .slice p1.ad f.nd p1.kd, .slice p1.ai f.ni p1.ki, .slice p1.a4 f.nt p1.kt]
  have t_K : HasBlk (w1.alloc (.cells #[.int .i64 f.W, .int .i64 f.H, .slice p1.ac f.nc p1.kc, .slice p1.ad f.nd p1.kd, .slice p1.ai f.ni p1.ki, .slice p1.a4 f.nt p1.kt] 29)) (w.heap.size) 23 #[.int .u8 (c 0), .int .u8 (c 1), .int .u8 (c 2), .int .u8 (c 3)] := by simpa using s_K
  clear s_K K
  have t_A : HasBlk (w1.alloc (.cells #[.int .i64 f.W, .int .i64 f.H, .slice p1.ac f.nc p1.kc, .slice p1.ad f.nd p1.kd, .slice p1.ai f.ni p1.ki, .slice p1.a4 f.nt p1.kt] 29)) (w.heap.size + 1) 25 #[.int .i64 d, .int .i64 i, .int .i64 t, .int .i64 p, .int .i64 u, .int .i64 v] := by simpa using s_A
  clear s_A A
  have t_B : HasBlk (w1.alloc (.cells #[.int .i64 f.W, .int .i64 f.H, .slice p1.ac f.nc p1.kc, .slice p1.ad f.nd p1.kd, .slice p1.ai f.ni p1.ki, .slice p1.a4 f.nt p1.kt] 29)) (w.heap.size + 1 + 1) 25 #[.int .i64 d', .int .i64 i', .int .i64 t', .int .i64 p', .int .i64 u', .int .i64 v'] := by simpa using s_B
  clear s_B B
  have t_X : HasBlk (w1.alloc (.cells #[.int .i64 f.W, .int .i64 f.H, .slice p1.ac f.nc p1.kc, .slice p1.ad f.nd p1.kd, .slice p1.ai f.ni p1.ki, .slice p1.a4 f.nt p1.kt] 29)) (w1.heap.size) 29 #[.int .i64 f.W, .int .i64 f.H, .slice p1.ac f.nc p1.kc, .slice p1.ad f.nd p1.kd, .slice p1.ai f.ni p1.ki, .slice p1.a4 f.nt p1.kt] := by simpa using s_X
  clear s_X
  have SB3 : Below w.heap.size w (w1.alloc (.cells #[.int .i64 f.W, .int .i64 f.H, .slice p1.ac f.nc p1.kc, .slice p1.ad f.nd p1.kd, .slice p1.ai f.ni p1.ki, .slice p1.a4 f.nt p1.kt] 29)) := by
    have bel0 := SB2h.out
    repeat' (first | exact Below.refl _ _ | assumption | apply Below.drew | refine Below.setCell ?_ (by first | omega | (simp; done) | (simp; omega)) _ | refine Below.alloc ?_ (by first | omega | (simp; done) | (simp; omega)) _)
  clear lt_K K_0 K_1 K_2 K_3 lt_A A_0 A_1 A_2 A_3 A_4 A_5 lt_B B_0 B_1 B_2 B_3 B_4 B_5
  generalize gW_v1 : (w1.alloc (.cells #[.int .i64 f.W, .int .i64 f.H, .slice p1.ac f.nc p1.kc, .slice p1.ad f.nd p1.kd, .slice p1.ai f.ni p1.ki, .slice p1.a4 f.nt p1.kt] 29)) = v1 at *
  clear gW_v1
  have K := Lib.hid t_K
  clear t_K
  have A := Lib.hid t_A
  clear t_A
  have B := Lib.hid t_B
  clear t_B
  have X := Lib.hid t_X
  clear t_X
  clear SB2h
  have SB3h := Lib.hid SB3
  clear SB3
  have F1 := Lib.hid F1a
  clear F1a
  refine (refnew_any W H c _).mono ?_
  rintro e w2 ⟨⟨q, g, y, rfl, hok, hv⟩, bel2⟩
  obtain ⟨rfl, rfl⟩ := V1.out.same hv
  have F1a := F1.out.below bel2
  clear F1
  have F1 := Lib.hid F1a
  have F2 := Lib.hid hok
  clear hok hv F1a
  have t_K := K.out.below bel2
  clear K
  have K := Lib.hid t_K
  clear t_K
  have t_A := A.out.below bel2
  clear A
  have A := Lib.hid t_A
  clear t_A
  have t_B := B.out.below bel2
  clear B
  have B := Lib.hid t_B
  clear t_B
  have t_X := X.out.below bel2
  clear X
  have X := Lib.hid t_X
  clear t_X
  have SB4 : Below w.heap.size w w2 := SB3h.out.trans (bel2.mono SB3h.out.size)
  clear SB3h
  have SB4h := Lib.hid SB4
  clear SB4 bel2
  have lt_K := K.out.lt
  have K_0 := K.out.cell 0
  have K_1 := K.out.cell 1
  have K_2 := K.out.cell 2
  have K_3 := K.out.cell 3
  simp at K_0 K_1 K_2 K_3
  have lt_A := A.out.lt
  have A_0 := A.out.cell 0
  have A_1 := A.out.cell 1
  have A_2 := A.out.cell 2
  have A_3 := A.out.cell 3
  have A_4 := A.out.cell 4
  have A_5 := A.out.cell 5
  simp at A_0 A_1 A_2 A_3 A_4 A_5
  have lt_B := B.out.lt
  have B_0 := B.out.cell 0
  have B_1 := B.out.cell 1
  have B_2 := B.out.cell 2
  have B_3 := B.out.cell 3
  have B_4 := B.out.cell 4
  have B_5 := B.out.cell 5
  simp at B_0 B_1 B_2 B_3 B_4 B_5
  have lt_X := X.out.lt
  have X_0 := X.out.cell 0
  have X_1 := X.out.cell 1
  have X_2 := X.out.cell 2
  have X_3 := X.out.cell 3
  have X_4 := X.out.cell 4
  have X_5 := X.out.cell 5
  simp at X_0 X_1 X_2 X_3 X_4 X_5
  have szB_w2 := SB4h.out.size
  go_wp2_with fail
  have F1a := F1.out.below ((Below.refl w2.heap.size w2).alloc (Nat.le_refl _) (.cells #[.int .i64 f.W, .int .i64 f.H, .slice q.ac f.nc q.kc, .slice q.ad f.nd q.kd, .slice q.ai f.ni q.ki, .slice q.a4 f.nt q.kt] 29))
  clear F1
  have F2a := F2.out.below ((Below.refl w2.heap.size w2).alloc (Nat.le_refl _) (.cells #[.int .i64 f.W, .int .i64 f.H, .slice q.ac f.nc q.kc, .slice q.ad f.nd q.kd, .slice q.ai f.ni q.ki, .slice q.a4 f.nt q.kt] 29))
  clear F2
  have NE_K_Y := Lib.hid (show w.heap.size ≠ w2.heap.size by omega)
  have NE_A_Y := Lib.hid (show w.heap.size + 1 ≠ w2.heap.size by omega)
  have NE_B_Y := Lib.hid (show w.heap.size + 1 + 1 ≠ w2.heap.size by omega)
  have NE_X_Y := Lib.hid (show w1.heap.size ≠ w2.heap.size by omega)
  have s_K := K.out
  have s_A := A.out
  have s_B := B.out
  have s_X := X.out
  replace s_K := s_K.alloc (.cells #[.int .i64 f.W, .int .i64 f.H, .slice q.ac f.nc q.kc, .slice q.ad f.nd q.kd, .slice q.ai f.ni q.ki, .slice q.a4 f.nt q.kt] 29)
  replace s_A := s_A.alloc (.cells #[.int .i64 f.W, .int .i64 f.H, .slice q.ac f.nc q.kc, .slice q.ad f.nd q.kd, .slice q.ai f.ni q.ki, .slice q.a4 f.nt q.kt] 29)
  replace s_B := s_B.alloc (.cells #[.int .i64 f.W, .int .i64 f.H, .slice q.ac f.nc q.kc, .slice q.ad f.nd q.kd, .slice q.ai f.ni q.ki, .slice q.a4 f.nt q.kt] 29)
  replace s_X := s_X.alloc (.cells #[.int .i64 f.W, .int .i64 f.H, .slice q.ac f.nc q.kc, .slice q.ad f.nd q.kd, .slice q.ai f.ni q.ki, .slice q.a4 f.nt q.kt] 29)
  have s_Y : HasBlk (w2.alloc (.cells #[.int .i64 f.W, .int .i64 f.H, .slice q.ac f.nc q.kc, .slice q.ad f.nd q.kd, .slice q.ai f.ni q.ki, .slice q.a4 f.nt q.kt] 29)) (w2.heap.size) 29 #[.int .i64 f.W, .int .i64 f.H, .slice q.ac f.nc q.kc, .slice q.ad f.nd q.kd, .slice q.ai f.ni q.ki, .slice q.a4 f.nt q.kt] := by simpa using hasBlk_new w2 29 #[.int .i64 f.W, .int .i64 f.H, .slice q.ac f.nc q.kc, .slice q.ad f.nd q.kd, .slice q.ai f.ni q.ki, .slice q.a4 f.nt q.kt]
  have t_K : HasBlk (w2.alloc (.cells #[.int .i64 f.W, .int .i64 f.H, .slice q.ac f.nc q.kc, .slice q.ad f.nd q.kd, .slice q.ai f.ni q.ki, .slice q.a4 f.nt q.kt] 29)) (w.heap.size) 23 #[.int .u8 (c 0), .int .u8 (c 1), .int .u8 (c 2), .int .u8 (c 3)] := by simpa using s_K
  clear s_K K
  have t_A : HasBlk (w2.alloc (.cells #[.int .i64 f.W, .int .i64 f.H, .slice q.ac f.nc q.kc, .slice q.ad f.nd q.kd, .slice q.ai f.ni q.ki, .slice q.a4 f.nt q.kt] 29)) (w.heap.size + 1) 25 #[.int .i64 d, .int .i64 i, .int .i64 t, .int .i64 p, .int .i64 u, .int .i64 v] := by simpa using s_A
  clear s_A A
  have t_B : HasBlk (w2.alloc (.cells #[.int .i64 f.W, .int .i64 f.H, .slice q.ac f.nc q.kc, .slice q.ad f.nd q.kd, .slice q.ai f.ni q.ki, .slice q.a4 f.nt q.kt] 29)) (w.heap.size + 1 + 1) 25 #[.int .i64 d', .int .i64 i', .int .i64 t', .int .i64 p', .int .i64 u', .int .i64 v'] := by simpa using s_B
  clear s_B B
  have t_X : HasBlk (w2.alloc (.cells #[.int .i64 f.W, .int .i64 f.H, .slice q.ac f.nc q.kc, .slice q.ad f.nd q.kd, .slice q.ai f.ni q.ki, .slice q.a4 f.nt q.kt] 29)) (w1.heap.size) 29 #[.int .i64 f.W, .int .i64 f.H, .slice p1.ac f.nc p1.kc, .slice p1.ad f.nd p1.kd, .slice p1.ai f.ni p1.ki, .slice p1.a4 f.nt p1.kt] := by simpa using s_X
  clear s_X X
  have t_Y : HasBlk (w2.alloc (.cells #[.int .i64 f.W, .int .i64 f.H, .slice q.ac f.nc q.kc, .slice q.ad f.nd q.kd, .slice q.ai f.ni q.ki, .slice q.a4 f.nt q.kt] 29)) (w2.heap.size) 29 #[.int .i64 f.W, .int .i64 f.H, .slice q.ac f.nc q.kc, .slice q.ad f.nd q.kd, .slice q.ai f.ni q.ki, .slice q.a4 f.nt q.kt] := by simpa using s_Y
  clear s_Y
  have SB5 : Below w.heap.size w (w2.alloc (.cells #[.int .i64 f.W, .int .i64 f.H, .slice q.ac f.nc q.kc, .slice q.ad f.nd q.kd, .slice q.ai f.ni q.ki, .slice q.a4 f.nt q.kt] 29)) := by
    have bel0 := SB4h.out
    repeat' (first | exact Below.refl _ _ | assumption | apply Below.drew | refine Below.setCell ?_ (by first | omega | (simp; done) | (simp; omega)) _ | refine Below.alloc ?_ (by first | omega | (simp; done) | (simp; omega)) _)
  clear lt_K K_0 K_1 K_2 K_3 lt_A A_0 A_1 A_2 A_3 A_4 A_5 lt_B B_0 B_1 B_2 B_3 B_4 B_5 lt_X X_0 X_1 X_2 X_3 X_4 X_5
  generalize gW_v2 : (w2.alloc (.cells #[.int .i64 f.W, .int .i64 f.H, .slice q.ac f.nc q.kc, .slice q.ad f.nd q.kd, .slice q.ai f.ni q.ki, .slice q.a4 f.nt q.kt] 29)) = v2 at *
  clear gW_v2
  have K := Lib.hid t_K
  clear t_K
  have A := Lib.hid t_A
  clear t_A
  have B := Lib.hid t_B
  clear t_B
  have X := Lib.hid t_X
  clear t_X
  have Y := Lib.hid t_Y
  clear t_Y
  clear SB4h
  have SB5h := Lib.hid SB5
  clear SB5
  have F1 := Lib.hid F1a
  clear F1a
  have F2 := Lib.hid F2a
  clear F2a
  have lt_K := K.out.lt
  have K_0 := K.out.cell 0
  have K_1 := K.out.cell 1
  have K_2 := K.out.cell 2
  have K_3 := K.out.cell 3
  simp at K_0 K_1 K_2 K_3
  have lt_A := A.out.lt
  have A_0 := A.out.cell 0
  have A_1 := A.out.cell 1
  have A_2 := A.out.cell 2
  have A_3 := A.out.cell 3
  have A_4 := A.out.cell 4
  have A_5 := A.out.cell 5
  simp at A_0 A_1 A_2 A_3 A_4 A_5
  have lt_B := B.out.lt
  have B_0 := B.out.cell 0
  have B_1 := B.out.cell 1
  have B_2 := B.out.cell 2
  have B_3 := B.out.cell 3
  have B_4 := B.out.cell 4
  have B_5 := B.out.cell 5
  simp at B_0 B_1 B_2 B_3 B_4 B_5
  have lt_X := X.out.lt
  have X_0 := X.out.cell 0
  have X_1 := X.out.cell 1
  have X_2 := X.out.cell 2
  have X_3 := X.out.cell 3
  have X_4 := X.out.cell 4
  have X_5 := X.out.cell 5
  simp at X_0 X_1 X_2 X_3 X_4 X_5
  have lt_Y := Y.out.lt
  have Y_0 := Y.out.cell 0
  have Y_1 := Y.out.cell 1
  have Y_2 := Y.out.cell 2
  have Y_3 := Y.out.cell 3
  have Y_4 := Y.out.cell 4
  have Y_5 := Y.out.cell 5
  simp at Y_0 Y_1 Y_2 Y_3 Y_4 Y_5
  have szB_v2 := SB5h.out.size
  have k1 := Lib.hid (fun b : BW v2 => BW.call (v := .bool true) (fun W' (h : Below v2.heap.size v2 W') => (refsame_any p1 q f f W' (F1.out.below h) (F2.out.below h) V1.out.bound).mono (fun e w' ⟨hx, hb⟩ => ⟨hx.tt (FD.Same.refl f), hb⟩)) b)
  have k2 := Lib.hid (fun b : BW v2 => BW.call (v := .bool (decide (NearP d i t p d' i' t' p'))) (fun W' (h : Below v2.heap.size v2 W') => nearer_any d i t p u v d' i' t' p' u' v' W') b)
  have k3 := Lib.hid (fun b : BW v2 => BW.call (v := .bool (decide (NearP d i t p d' i' t' p'))) (fun W' (h : Below v2.heap.size v2 W') => refnearer_any d i t p u v d' i' t' p' u' v' W') b)
  generalize decide (NearP d i t p d' i' t' p') = nb at *
  have ex : (x == x) = true := by simp
  have en : (nb == nb) = true := by simp
  have p_X_0 := fun b : BW v2 => BW.cell X_0 lt_X b
  have p_X_1 := fun b : BW v2 => BW.cell X_1 lt_X b
  have p_X_2 := fun b : BW v2 => BW.cell X_2 lt_X b
  have p_X_3 := fun b : BW v2 => BW.cell X_3 lt_X b
  have p_X_4 := fun b : BW v2 => BW.cell X_4 lt_X b
  have p_X_5 := fun b : BW v2 => BW.cell X_5 lt_X b
  have p_Y_0 := fun b : BW v2 => BW.cell Y_0 lt_Y b
  have p_Y_1 := fun b : BW v2 => BW.cell Y_1 lt_Y b
  have p_Y_2 := fun b : BW v2 => BW.cell Y_2 lt_Y b
  have p_Y_3 := fun b : BW v2 => BW.cell Y_3 lt_Y b
  have p_Y_4 := fun b : BW v2 => BW.cell Y_4 lt_Y b
  have p_Y_5 := fun b : BW v2 => BW.cell Y_5 lt_Y b
  have p_A_0 := fun b : BW v2 => BW.cell A_0 lt_A b
  have p_A_1 := fun b : BW v2 => BW.cell A_1 lt_A b
  have p_A_2 := fun b : BW v2 => BW.cell A_2 lt_A b
  have p_A_3 := fun b : BW v2 => BW.cell A_3 lt_A b
  have p_A_4 := fun b : BW v2 => BW.cell A_4 lt_A b
  have p_A_5 := fun b : BW v2 => BW.cell A_5 lt_A b
  have p_B_0 := fun b : BW v2 => BW.cell B_0 lt_B b
  have p_B_1 := fun b : BW v2 => BW.cell B_1 lt_B b
  have p_B_2 := fun b : BW v2 => BW.cell B_2 lt_B b
  have p_B_3 := fun b : BW v2 => BW.cell B_3 lt_B b
  have p_B_4 := fun b : BW v2 => BW.cell B_4 lt_B b
  have p_B_5 := fun b : BW v2 => BW.cell B_5 lt_B b
  clear lt_K K_0 K_1 K_2 K_3 lt_A A_0 A_1 A_2 A_3 A_4 A_5 lt_B B_0 B_1 B_2 B_3 B_4 B_5 lt_X X_0 X_1 X_2 X_3 X_4 X_5 lt_Y Y_0 Y_1 Y_2 Y_3 Y_4 Y_5
  refine wp_region_quiet_bw (by kernel_rfl) (by kernel_rfl) ?_
  repeat (go_big_quiet_step ((first | (go_at_call 15; with_reducible exact k1.out _) | (go_at_call 16; with_reducible exact k2.out _) | (go_at_call 17; with_reducible exact k3.out _))))
  refine wpQuiet_nil ?_
  intro _ hw'
  obtain ⟨pq, hw''⟩ := hw'
  subst hw''
  have hpq := Lib.hid ((SB5h.out).trans (pq.h.mono SB5h.out.size))
  clear p_X_0 p_X_1 p_X_2 p_X_3 p_X_4 p_X_5 p_Y_0 p_Y_1 p_Y_2 p_Y_3 p_Y_4 p_Y_5 p_A_0 p_A_1 p_A_2 p_A_3 p_A_4 p_A_5 p_B_0 p_B_1 p_B_2 p_B_3 p_B_4 p_B_5 k1 k2 k3
  go_wp2
  go_ret
  exact ⟨rfl, hpq.out⟩

theorem cells_int : Try.prog.cellsOf 3 = 1 := by kernel_rfl
theorem cells_u8 : Try.prog.cellsOf 5 = 1 := by kernel_rfl
theorem cells_fg : Try.prog.cellsOf 25 = 6 := by kernel_rfl
theorem cells_col : Try.prog.cellsOf 23 = 4 := by kernel_rfl
theorem arg_int {w : World} {v : Value} (h : Arg Try.prog w 3 v) : ∃ x : Int, v = .int .i64 x := by
  obtain ⟨x, hx, _⟩ := Arg.int Try.underlying3 h
  exact ⟨x, hx⟩
theorem rd_col {w : World} {cs : List Value} (hr : Rd Try.prog w 23 cs) : ∃ c : Nat → Int, cs = [.int .u8 (c 0), .int .u8 (c 1), .int .u8 (c 2), .int .u8 (c 3)] := by
  obtain ⟨hl, hf⟩ := hr.array Try.underlying23
  rw [cells_col] at hl
  rw [cells_u8] at hf
  match cs, hl with
  | [a, b, c, d], _ =>
    obtain ⟨x0, e0, _⟩ := Rd.int Try.underlying5 (hf 0 (by omega))
    obtain ⟨x1, e1, _⟩ := Rd.int Try.underlying5 (hf 1 (by omega))
    obtain ⟨x2, e2, _⟩ := Rd.int Try.underlying5 (hf 2 (by omega))
    obtain ⟨x3, e3, _⟩ := Rd.int Try.underlying5 (hf 3 (by omega))
    simp at e0 e1 e2 e3
    subst e0 e1 e2 e3
    exact ⟨fun j => if j = 0 then x0 else if j = 1 then x1 else if j = 2 then x2 else x3, rfl⟩
theorem arg_col {w : World} {v : Value} (h : Arg Try.prog w 23 v) : ∃ c : Nat → Int, v = .agg #[.int .u8 (c 0), .int .u8 (c 1), .int .u8 (c 2), .int .u8 (c 3)] := by
  obtain ⟨cs, rfl, _, hr⟩ := h.array Try.underlying23
  obtain ⟨c, rfl⟩ := rd_col hr
  exact ⟨c, rfl⟩
set_option maxRecDepth 100000 in
theorem arg_fg {w : World} {v : Value} (h : Arg Try.prog w 25 v) : ∃ d i t p u x : Int, v = .agg #[.int .i64 d, .int .i64 i, .int .i64 t, .int .i64 p, .int .i64 u, .int .i64 x] := by
  obtain ⟨cs, rfl, _, hr⟩ := h.struct Try.underlying25
  obtain ⟨hl, hf⟩ := hr.struct Try.underlying25
  rw [cells_fg] at hl
  match cs, hl with
  | [a, b, c, d, e, f], _ =>
    obtain ⟨x0, e0, _⟩ := Rd.int Try.underlying3 (hf 0 _ rfl)
    obtain ⟨x1, e1, _⟩ := Rd.int Try.underlying3 (hf 1 _ rfl)
    obtain ⟨x2, e2, _⟩ := Rd.int Try.underlying3 (hf 2 _ rfl)
    obtain ⟨x3, e3, _⟩ := Rd.int Try.underlying3 (hf 3 _ rfl)
    obtain ⟨x4, e4, _⟩ := Rd.int Try.underlying3 (hf 4 _ rfl)
    obtain ⟨x5, e5, _⟩ := Rd.int Try.underlying3 (hf 5 _ rfl)
    simp [cells_int] at e0 e1 e2 e3 e4 e5
    subst e0 e1 e2 e3 e4 e5
    exact ⟨_, _, _, _, _, _, rfl⟩
theorem frameNews_arg (v0 v1 v2 v3 v4 : Value) (w : World) (h0 : Arg Try.prog w 3 v0) (h1 : Arg Try.prog w 3 v1) (h2 : Arg Try.prog w 23 v2) (h3 : Arg Try.prog w 25 v3) (h4 : Arg Try.prog w 25 v4) :
    Calls Try.prog 3 #[v0, v1, v2, v3, v4] w fun e w' => e = .returned (.bool true) ∧ Below w.heap.size w w' := by
  obtain ⟨W, rfl⟩ := arg_int h0
  obtain ⟨H, rfl⟩ := arg_int h1
  obtain ⟨c, rfl⟩ := arg_col h2
  obtain ⟨d, i, t, p, u, v, rfl⟩ := arg_fg h3
  obtain ⟨d', i', t', p', u', v', rfl⟩ := arg_fg h4
  exact frameNews_walk W H c d i t p u v d' i' t' p' u' v' w
end Go.Proofs.Ytibeoeooajelgaa
