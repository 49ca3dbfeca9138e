/- the reference's Put and Lay. -/
import Derived.Test.YtibeoeooajelgaaF34
import Derived.Test.YtibeoeooajelgaaF35
namespace Go.Proofs.Ytibeoeooajelgaa
open Go.RowKit
set_option linter.unusedVariables false

set_option maxRecDepth 100000 in
set_option maxHeartbeats 8000000 in
theorem refput_any (p : FP) (f : FD) (x y : Int) (d i t p9 u v : Int) (c : Nat → Int) (w : World) (h : FOk w p f) (hfit : f.Fits) : Calls Try.prog 21 #[.agg #[.int .i64 f.W, .int .i64 f.H, .slice p.ac f.nc p.kc, .slice p.ad f.nd p.kd, .slice p.ai f.ni p.ki, .slice p.a4 f.nt p.kt], .int .i64 x, .int .i64 y, .agg #[.int .i64 d, .int .i64 i, .int .i64 t, .int .i64 p9, .int .i64 u, .int .i64 v], .agg #[.int .u8 (c 0), .int .u8 (c 1), .int .u8 (c 2), .int .u8 (c 3)]] w fun e w' => FRO (PutV f x y d i t c) w.heap.size e w' ∧ Below w.heap.size w w' := by
  have HF := Lib.hid h
  have LE_R : w.heap.size ≤ w.heap.size + 1 + 1 + 1 := by omega
  clear h
  go_enter Try.func21, Try.ntmps21
  go_wp2_with fail
  have NE_P_G := Lib.hid (show w.heap.size ≠ w.heap.size + 1 by omega)
  have NE_P_K := Lib.hid (show w.heap.size ≠ w.heap.size + 1 + 1 by omega)
  have NE_G_K := Lib.hid (show w.heap.size + 1 ≠ w.heap.size + 1 + 1 by omega)
  have NE_P_R := Lib.hid (show w.heap.size ≠ w.heap.size + 1 + 1 + 1 by omega)
  have NE_G_R := Lib.hid (show w.heap.size + 1 ≠ w.heap.size + 1 + 1 + 1 by omega)
  have NE_K_R := Lib.hid (show w.heap.size + 1 + 1 ≠ w.heap.size + 1 + 1 + 1 by omega)
  have s_P : HasBlk (w.alloc (.cells #[.int .i64 f.W, .int .i64 f.H, .slice p.ac f.nc p.kc, .slice p.ad f.nd p.kd, .slice p.ai f.ni p.ki, .slice p.a4 f.nt p.kt] 29)) (w.heap.size) 29 #[.int .i64 f.W, .int .i64 f.H, .slice p.ac f.nc p.kc, .slice p.ad f.nd p.kd, .slice p.ai f.ni p.ki, .slice p.a4 f.nt p.kt] := by simpa using hasBlk_new w 29 #[.int .i64 f.W, .int .i64 f.H, .slice p.ac f.nc p.kc, .slice p.ad f.nd p.kd, .slice p.ai f.ni p.ki, .slice p.a4 f.nt p.kt]
  replace s_P := s_P.alloc (.cells #[.int .i64 d, .int .i64 i, .int .i64 t, .int .i64 p9, .int .i64 u, .int .i64 v] 25)
  have s_G : HasBlk ((w.alloc (.cells #[.int .i64 f.W, .int .i64 f.H, .slice p.ac f.nc p.kc, .slice p.ad f.nd p.kd, .slice p.ai f.ni p.ki, .slice p.a4 f.nt p.kt] 29)).alloc (.cells #[.int .i64 d, .int .i64 i, .int .i64 t, .int .i64 p9, .int .i64 u, .int .i64 v] 25)) (w.heap.size + 1) 25 #[.int .i64 d, .int .i64 i, .int .i64 t, .int .i64 p9, .int .i64 u, .int .i64 v] := by simpa using hasBlk_new (w.alloc (.cells #[.int .i64 f.W, .int .i64 f.H, .slice p.ac f.nc p.kc, .slice p.ad f.nd p.kd, .slice p.ai f.ni p.ki, .slice p.a4 f.nt p.kt] 29)) 25 #[.int .i64 d, .int .i64 i, .int .i64 t, .int .i64 p9, .int .i64 u, .int .i64 v]
  replace s_P := s_P.alloc (.cells #[.int .u8 (c 0), .int .u8 (c 1), .int .u8 (c 2), .int .u8 (c 3)] 23)
  replace s_G := s_G.alloc (.cells #[.int .u8 (c 0), .int .u8 (c 1), .int .u8 (c 2), .int .u8 (c 3)] 23)
  have s_K : HasBlk (((w.alloc (.cells #[.int .i64 f.W, .int .i64 f.H, .slice p.ac f.nc p.kc, .slice p.ad f.nd p.kd, .slice p.ai f.ni p.ki, .slice p.a4 f.nt p.kt] 29)).alloc (.cells #[.int .i64 d, .int .i64 i, .int .i64 t, .int .i64 p9, .int .i64 u, .int .i64 v] 25)).alloc (.cells #[.int .u8 (c 0), .int .u8 (c 1), .int .u8 (c 2), .int .u8 (c 3)] 23)) (w.heap.size + 1 + 1) 23 #[.int .u8 (c 0), .int .u8 (c 1), .int .u8 (c 2), .int .u8 (c 3)] := by simpa using hasBlk_new ((w.alloc (.cells #[.int .i64 f.W, .int .i64 f.H, .slice p.ac f.nc p.kc, .slice p.ad f.nd p.kd, .slice p.ai f.ni p.ki, .slice p.a4 f.nt p.kt] 29)).alloc (.cells #[.int .i64 d, .int .i64 i, .int .i64 t, .int .i64 p9, .int .i64 u, .int .i64 v] 25)) 23 #[.int .u8 (c 0), .int .u8 (c 1), .int .u8 (c 2), .int .u8 (c 3)]
  replace s_P := s_P.alloc (.cells #[.int .i64 0, .int .i64 0, .slice none 0 0, .slice none 0 0, .slice none 0 0, .slice none 0 0] 29)
  replace s_G := s_G.alloc (.cells #[.int .i64 0, .int .i64 0, .slice none 0 0, .slice none 0 0, .slice none 0 0, .slice none 0 0] 29)
  replace s_K := s_K.alloc (.cells #[.int .i64 0, .int .i64 0, .slice none 0 0, .slice none 0 0, .slice none 0 0, .slice none 0 0] 29)
  have s_R : HasBlk ((((w.alloc (.cells #[.int .i64 f.W, .int .i64 f.H, .slice p.ac f.nc p.kc, .slice p.ad f.nd p.kd, .slice p.ai f.ni p.ki, .slice p.a4 f.nt p.kt] 29)).alloc (.cells #[.int .i64 d, .int .i64 i, .int .i64 t, .int .i64 p9, .int .i64 u, .int .i64 v] 25)).alloc (.cells #[.int .u8 (c 0), .int .u8 (c 1), .int .u8 (c 2), .int .u8 (c 3)] 23)).alloc (.cells #[.int .i64 0, .int .i64 0, .slice none 0 0, .slice none 0 0, .slice none 0 0, .slice none 0 0] 29)) (w.heap.size + 1 + 1 + 1) 29 #[.int .i64 0, .int .i64 0, .slice none 0 0, .slice none 0 0, .slice none 0 0, .slice none 0 0] := by simpa using hasBlk_new (((w.alloc (.cells #[.int .i64 f.W, .int .i64 f.H, .slice p.ac f.nc p.kc, .slice p.ad f.nd p.kd, .slice p.ai f.ni p.ki, .slice p.a4 f.nt p.kt] 29)).alloc (.cells #[.int .i64 d, .int .i64 i, .int .i64 t, .int .i64 p9, .int .i64 u, .int .i64 v] 25)).alloc (.cells #[.int .u8 (c 0), .int .u8 (c 1), .int .u8 (c 2), .int .u8 (c 3)] 23)) 29 #[.int .i64 0, .int .i64 0, .slice none 0 0, .slice none 0 0, .slice none 0 0, .slice none 0 0]
  have t_P : HasBlk ((((w.alloc (.cells #[.int .i64 f.W, .int .i64 f.H, .slice p.ac f.nc p.kc, .slice p.ad f.nd p.kd, .slice p.ai f.ni p.ki, .slice p.a4 f.nt p.kt] 29)).alloc (.cells #[.int .i64 d, .int .i64 i, .int .i64 t, .int .i64 p9, .int .i64 u, .int .i64 v] 25)).alloc (.cells #[.int .u8 (c 0), .int .u8 (c 1), .int .u8 (c 2), .int .u8 (c 3)] 23)).alloc (.cells #[.int .i64 0, .int .i64 0, .slice none 0 0, .slice none 0 0, .slice none 0 0, .slice none 0 0] 29)) (w.heap.size) 29 #[.int .i64 f.W, .int .i64 f.H, .slice p.ac f.nc p.kc, .slice p.ad f.nd p.kd, .slice p.ai f.ni p.ki, .slice p.a4 f.nt p.kt] := by simpa using s_P
  clear s_P
  have t_G : HasBlk ((((w.alloc (.cells #[.int .i64 f.W, .int .i64 f.H, .slice p.ac f.nc p.kc, .slice p.ad f.nd p.kd, .slice p.ai f.ni p.ki, .slice p.a4 f.nt p.kt] 29)).alloc (.cells #[.int .i64 d, .int .i64 i, .int .i64 t, .int .i64 p9, .int .i64 u, .int .i64 v] 25)).alloc (.cells #[.int .u8 (c 0), .int .u8 (c 1), .int .u8 (c 2), .int .u8 (c 3)] 23)).alloc (.cells #[.int .i64 0, .int .i64 0, .slice none 0 0, .slice none 0 0, .slice none 0 0, .slice none 0 0] 29)) (w.heap.size + 1) 25 #[.int .i64 d, .int .i64 i, .int .i64 t, .int .i64 p9, .int .i64 u, .int .i64 v] := by simpa using s_G
  clear s_G
  have t_K : HasBlk ((((w.alloc (.cells #[.int .i64 f.W, .int .i64 f.H, .slice p.ac f.nc p.kc, .slice p.ad f.nd p.kd, .slice p.ai f.ni p.ki, .slice p.a4 f.nt p.kt] 29)).alloc (.cells #[.int .i64 d, .int .i64 i, .int .i64 t, .int .i64 p9, .int .i64 u, .int .i64 v] 25)).alloc (.cells #[.int .u8 (c 0), .int .u8 (c 1), .int .u8 (c 2), .int .u8 (c 3)] 23)).alloc (.cells #[.int .i64 0, .int .i64 0, .slice none 0 0, .slice none 0 0, .slice none 0 0, .slice none 0 0] 29)) (w.heap.size + 1 + 1) 23 #[.int .u8 (c 0), .int .u8 (c 1), .int .u8 (c 2), .int .u8 (c 3)] := by simpa using s_K
  clear s_K
  have t_R : HasBlk ((((w.alloc (.cells #[.int .i64 f.W, .int .i64 f.H, .slice p.ac f.nc p.kc, .slice p.ad f.nd p.kd, .slice p.ai f.ni p.ki, .slice p.a4 f.nt p.kt] 29)).alloc (.cells #[.int .i64 d, .int .i64 i, .int .i64 t, .int .i64 p9, .int .i64 u, .int .i64 v] 25)).alloc (.cells #[.int .u8 (c 0), .int .u8 (c 1), .int .u8 (c 2), .int .u8 (c 3)] 23)).alloc (.cells #[.int .i64 0, .int .i64 0, .slice none 0 0, .slice none 0 0, .slice none 0 0, .slice none 0 0] 29)) (w.heap.size + 1 + 1 + 1) 29 #[.int .i64 0, .int .i64 0, .slice none 0 0, .slice none 0 0, .slice none 0 0, .slice none 0 0] := by simpa using s_R
  clear s_R
  have SB1 : Below w.heap.size w ((((w.alloc (.cells #[.int .i64 f.W, .int .i64 f.H, .slice p.ac f.nc p.kc, .slice p.ad f.nd p.kd, .slice p.ai f.ni p.ki, .slice p.a4 f.nt p.kt] 29)).alloc (.cells #[.int .i64 d, .int .i64 i, .int .i64 t, .int .i64 p9, .int .i64 u, .int .i64 v] 25)).alloc (.cells #[.int .u8 (c 0), .int .u8 (c 1), .int .u8 (c 2), .int .u8 (c 3)] 23)).alloc (.cells #[.int .i64 0, .int .i64 0, .slice none 0 0, .slice none 0 0, .slice none 0 0, .slice none 0 0] 29)) := by
    repeat' (first | exact Below.refl _ _ | assumption | apply Below.drew | refine Below.setCell ?_ (by first | omega | (simp; done) | (simp; omega)) _ | refine Below.alloc ?_ (by first | omega | (simp; done) | (simp; omega)) _)
  generalize gW_v0 : ((((w.alloc (.cells #[.int .i64 f.W, .int .i64 f.H, .slice p.ac f.nc p.kc, .slice p.ad f.nd p.kd, .slice p.ai f.ni p.ki, .slice p.a4 f.nt p.kt] 29)).alloc (.cells #[.int .i64 d, .int .i64 i, .int .i64 t, .int .i64 p9, .int .i64 u, .int .i64 v] 25)).alloc (.cells #[.int .u8 (c 0), .int .u8 (c 1), .int .u8 (c 2), .int .u8 (c 3)] 23)).alloc (.cells #[.int .i64 0, .int .i64 0, .slice none 0 0, .slice none 0 0, .slice none 0 0, .slice none 0 0] 29)) = v0 at *
  clear gW_v0
  have P := Lib.hid t_P
  clear t_P
  have G := Lib.hid t_G
  clear t_G
  have K := Lib.hid t_K
  clear t_K
  have R := Lib.hid t_R
  clear t_R
  have SB1h := Lib.hid SB1
  clear SB1
  have ltR0 := R.out.lt
  refine (asked_any p f x y _ (HF.out.below SB1h.out)).mono ?_
  rintro e w1 ⟨⟨z, rfl, hz⟩, bel1⟩
  have t_P := P.out.below bel1
  clear P
  have P := Lib.hid t_P
  clear t_P
  have t_G := G.out.below bel1
  clear G
  have G := Lib.hid t_G
  clear t_G
  have t_K := K.out.below bel1
  clear K
  have K := Lib.hid t_K
  clear t_K
  have t_R := R.out.below bel1
  clear R
  have R := Lib.hid t_R
  clear t_R
  have SB2 : Below w.heap.size w w1 := SB1h.out.trans (bel1.mono SB1h.out.size)
  clear SB1h
  have SB2h := Lib.hid SB2
  clear SB2 bel1
  have lt_P := P.out.lt
  have P_0 := P.out.cell 0
  have P_1 := P.out.cell 1
  have P_2 := P.out.cell 2
  have P_3 := P.out.cell 3
  have P_4 := P.out.cell 4
  have P_5 := P.out.cell 5
  simp at P_0 P_1 P_2 P_3 P_4 P_5
  have lt_G := G.out.lt
  have G_0 := G.out.cell 0
  have G_1 := G.out.cell 1
  have G_2 := G.out.cell 2
  have G_3 := G.out.cell 3
  have G_4 := G.out.cell 4
  have G_5 := G.out.cell 5
  simp at G_0 G_1 G_2 G_3 G_4 G_5
  have lt_K := K.out.lt
  have K_0 := K.out.cell 0
  have K_1 := K.out.cell 1
  have K_2 := K.out.cell 2
  have K_3 := K.out.cell 3
  simp at K_0 K_1 K_2 K_3
  have lt_R := R.out.lt
  have R_0 := R.out.cell 0
  have R_1 := R.out.cell 1
  have R_2 := R.out.cell 2
  have R_3 := R.out.cell 3
  have R_4 := R.out.cell 4
  have R_5 := R.out.cell 5
  have R_f0 := R.out.frozen 0
  have R_f1 := R.out.frozen 1
  have R_f2 := R.out.frozen 2
  have R_f3 := R.out.frozen 3
  have R_f4 := R.out.frozen 4
  have R_f5 := R.out.frozen 5
  simp at R_0 R_1 R_2 R_3 R_4 R_5
  have szB_w1 := SB2h.out.size
  rcases hz with ⟨hm, rfl⟩ | ⟨hm, hi, rfl⟩ | ⟨hm, hi, rfl⟩
  · have Hm := Lib.hid hm
    clear hm
    go_wp2
    refine bodyPost_ret (v := .tuple #[.agg #[.int .i64 0, .int .i64 0, .slice none 0 0, .slice none 0 0, .slice none 0 0, .slice none 0 0], .int .i64 8]) (by simp [results, Try.results21, go_sem, *]) rfl ⟨FRO.zero (.inl ⟨Hm.out, rfl, rfl⟩), ?_⟩
    exact (Below.setCell (p := ⟨w.heap.size + 1 + 1 + 1, 5, none⟩) (Below.setCell (p := ⟨w.heap.size + 1 + 1 + 1, 4, none⟩) (Below.setCell (p := ⟨w.heap.size + 1 + 1 + 1, 3, none⟩) (Below.setCell (p := ⟨w.heap.size + 1 + 1 + 1, 2, none⟩) (Below.setCell (p := ⟨w.heap.size + 1 + 1 + 1, 1, none⟩) (Below.setCell (p := ⟨w.heap.size + 1 + 1 + 1, 0, none⟩) SB2h.out LE_R _) LE_R _) LE_R _) LE_R _) LE_R _) LE_R _)
  · have Hm := Lib.hid (And.intro hm hi)
    clear hm hi
    go_wp2
    refine bodyPost_ret (v := .tuple #[.agg #[.int .i64 0, .int .i64 0, .slice none 0 0, .slice none 0 0, .slice none 0 0, .slice none 0 0], .int .i64 2]) (by simp [results, Try.results21, go_sem, *]) rfl ⟨FRO.zero (.inr (.inl ⟨Hm.out.1, fun z => Hm.out.2 z.1, rfl, rfl⟩)), ?_⟩
    exact (Below.setCell (p := ⟨w.heap.size + 1 + 1 + 1, 5, none⟩) (Below.setCell (p := ⟨w.heap.size + 1 + 1 + 1, 4, none⟩) (Below.setCell (p := ⟨w.heap.size + 1 + 1 + 1, 3, none⟩) (Below.setCell (p := ⟨w.heap.size + 1 + 1 + 1, 2, none⟩) (Below.setCell (p := ⟨w.heap.size + 1 + 1 + 1, 1, none⟩) (Below.setCell (p := ⟨w.heap.size + 1 + 1 + 1, 0, none⟩) SB2h.out LE_R _) LE_R _) LE_R _) LE_R _) LE_R _) LE_R _)
  have Hm := Lib.hid (And.intro hm hi)
  obtain ⟨k, hk, hl1, hl2, hl3, hl4⟩ := FD.place hm hi
  have Hk := Lib.hid (And.intro hk (And.intro hl1 (And.intro hl2 (And.intro hl3 hl4))))
  clear hm hi hk hl1 hl2 hl3 hl4
  go_wp2_with fail
  have hsb := refsomebody_any d i t w1
  by_cases hs : SomeP d i t
  rotate_left
  · rw [show decide (SomeP d i t) = false from decide_eq_false hs] at hsb
    have Hs := Lib.hid hs
    clear hs
    refine hsb.mono ?_
    rintro e w2 ⟨rfl, hw⟩
    obtain rfl := hw.symm
    clear hsb
    go_wp2
    refine bodyPost_ret (v := .tuple #[.agg #[.int .i64 0, .int .i64 0, .slice none 0 0, .slice none 0 0, .slice none 0 0, .slice none 0 0], .int .i64 2]) (by simp [results, Try.results21, go_sem, *]) rfl ⟨FRO.zero (.inr (.inl ⟨Hm.out.1, fun z => Hs.out z.2, rfl, rfl⟩)), ?_⟩
    exact (Below.setCell (p := ⟨w.heap.size + 1 + 1 + 1, 5, none⟩) (Below.setCell (p := ⟨w.heap.size + 1 + 1 + 1, 4, none⟩) (Below.setCell (p := ⟨w.heap.size + 1 + 1 + 1, 3, none⟩) (Below.setCell (p := ⟨w.heap.size + 1 + 1 + 1, 2, none⟩) (Below.setCell (p := ⟨w.heap.size + 1 + 1 + 1, 1, none⟩) (Below.setCell (p := ⟨w.heap.size + 1 + 1 + 1, 0, none⟩) SB2h.out LE_R _) LE_R _) LE_R _) LE_R _) LE_R _) LE_R _)
  rw [show decide (SomeP d i t) = true from decide_eq_true hs] at hsb
  have Hs := Lib.hid hs
  clear hs
  refine hsb.mono ?_
  rintro e w2 ⟨rfl, hw⟩
  obtain rfl := hw.symm
  clear hsb
  have ltR1 := R.out.lt
  have szw : w.heap.size ≤ w1.heap.size := SB2h.out.size
  go_wp2_with fail
  refine (reftwin_any p f _ (HF.out.below SB2h.out) hfit).mono ?_
  rintro e w2 ⟨⟨q, rfl, ho⟩, bel2⟩
  have HO := Lib.hid ho
  have sz2 := bel2.size
  clear ho lt_P P_0 P_1 P_2 P_3 P_4 P_5 lt_G G_0 G_1 G_2 G_3 G_4 G_5 lt_K K_0 K_1 K_2 K_3 lt_R R_0 R_1 R_2 R_3 R_4 R_5 R_f0 R_f1 R_f2 R_f3 R_f4 R_f5
  have t_P := P.out.below bel2
  clear P
  have P := Lib.hid t_P
  clear t_P
  have t_G := G.out.below bel2
  clear G
  have G := Lib.hid t_G
  clear t_G
  have t_K := K.out.below bel2
  clear K
  have K := Lib.hid t_K
  clear t_K
  have t_R := R.out.below bel2
  clear R
  have R := Lib.hid t_R
  clear t_R
  have SB3 : Below w.heap.size w w2 := SB2h.out.trans (bel2.mono SB2h.out.size)
  clear SB2h
  have SB3h := Lib.hid SB3
  clear SB3 bel2
  have lt_P := P.out.lt
  have P_0 := P.out.cell 0
  have P_1 := P.out.cell 1
  have P_2 := P.out.cell 2
  have P_3 := P.out.cell 3
  have P_4 := P.out.cell 4
  have P_5 := P.out.cell 5
  simp at P_0 P_1 P_2 P_3 P_4 P_5
  have lt_G := G.out.lt
  have G_0 := G.out.cell 0
  have G_1 := G.out.cell 1
  have G_2 := G.out.cell 2
  have G_3 := G.out.cell 3
  have G_4 := G.out.cell 4
  have G_5 := G.out.cell 5
  simp at G_0 G_1 G_2 G_3 G_4 G_5
  have lt_K := K.out.lt
  have K_0 := K.out.cell 0
  have K_1 := K.out.cell 1
  have K_2 := K.out.cell 2
  have K_3 := K.out.cell 3
  simp at K_0 K_1 K_2 K_3
  have lt_R := R.out.lt
  have R_0 := R.out.cell 0
  have R_1 := R.out.cell 1
  have R_2 := R.out.cell 2
  have R_3 := R.out.cell 3
  have R_4 := R.out.cell 4
  have R_5 := R.out.cell 5
  have R_f0 := R.out.frozen 0
  have R_f1 := R.out.frozen 1
  have R_f2 := R.out.frozen 2
  have R_f3 := R.out.frozen 3
  have R_f4 := R.out.frozen 4
  have R_f5 := R.out.frozen 5
  simp at R_0 R_1 R_2 R_3 R_4 R_5
  have szB_w2 := SB3h.out.size
  go_wp2_with fail
  have HOa := HO.out.below ((Below.refl w2.heap.size w2).alloc (Nat.le_refl _) (.cells #[.int .i64 f.W, .int .i64 f.H, .slice q.ac f.nc q.kc, .slice q.ad f.nd q.kd, .slice q.ai f.ni q.ki, .slice q.a4 f.nt q.kt] 29))
  clear HO
  have szv : w1.heap.size ≤ (w2.alloc (.cells #[.int .i64 f.W, .int .i64 f.H, .slice q.ac f.nc q.kc, .slice q.ad f.nd q.kd, .slice q.ai f.ni q.ki, .slice q.a4 f.nt q.kt] 29)).heap.size := by simp; omega
  have NE_P_T := Lib.hid (show w.heap.size ≠ w2.heap.size by omega)
  have NE_G_T := Lib.hid (show w.heap.size + 1 ≠ w2.heap.size by omega)
  have NE_K_T := Lib.hid (show w.heap.size + 1 + 1 ≠ w2.heap.size by omega)
  have NE_R_T := Lib.hid (show w.heap.size + 1 + 1 + 1 ≠ w2.heap.size by omega)
  have s_P := P.out
  have s_G := G.out
  have s_K := K.out
  have s_R := R.out
  replace s_P := s_P.alloc (.cells #[.int .i64 f.W, .int .i64 f.H, .slice q.ac f.nc q.kc, .slice q.ad f.nd q.kd, .slice q.ai f.ni q.ki, .slice q.a4 f.nt q.kt] 29)
  replace s_G := s_G.alloc (.cells #[.int .i64 f.W, .int .i64 f.H, .slice q.ac f.nc q.kc, .slice q.ad f.nd q.kd, .slice q.ai f.ni q.ki, .slice q.a4 f.nt q.kt] 29)
  replace s_K := s_K.alloc (.cells #[.int .i64 f.W, .int .i64 f.H, .slice q.ac f.nc q.kc, .slice q.ad f.nd q.kd, .slice q.ai f.ni q.ki, .slice q.a4 f.nt q.kt] 29)
  replace s_R := s_R.alloc (.cells #[.int .i64 f.W, .int .i64 f.H, .slice q.ac f.nc q.kc, .slice q.ad f.nd q.kd, .slice q.ai f.ni q.ki, .slice q.a4 f.nt q.kt] 29)
  have s_T : HasBlk (w2.alloc (.cells #[.int .i64 f.W, .int .i64 f.H, .slice q.ac f.nc q.kc, .slice q.ad f.nd q.kd, .slice q.ai f.ni q.ki, .slice q.a4 f.nt q.kt] 29)) (w2.heap.size) 29 #[.int .i64 f.W, .int .i64 f.H, .slice q.ac f.nc q.kc, .slice q.ad f.nd q.kd, .slice q.ai f.ni q.ki, .slice q.a4 f.nt q.kt] := by simpa using hasBlk_new w2 29 #[.int .i64 f.W, .int .i64 f.H, .slice q.ac f.nc q.kc, .slice q.ad f.nd q.kd, .slice q.ai f.ni q.ki, .slice q.a4 f.nt q.kt]
  have t_P : HasBlk (w2.alloc (.cells #[.int .i64 f.W, .int .i64 f.H, .slice q.ac f.nc q.kc, .slice q.ad f.nd q.kd, .slice q.ai f.ni q.ki, .slice q.a4 f.nt q.kt] 29)) (w.heap.size) 29 #[.int .i64 f.W, .int .i64 f.H, .slice p.ac f.nc p.kc, .slice p.ad f.nd p.kd, .slice p.ai f.ni p.ki, .slice p.a4 f.nt p.kt] := by simpa using s_P
  clear s_P P
  have t_G : HasBlk (w2.alloc (.cells #[.int .i64 f.W, .int .i64 f.H, .slice q.ac f.nc q.kc, .slice q.ad f.nd q.kd, .slice q.ai f.ni q.ki, .slice q.a4 f.nt q.kt] 29)) (w.heap.size + 1) 25 #[.int .i64 d, .int .i64 i, .int .i64 t, .int .i64 p9, .int .i64 u, .int .i64 v] := by simpa using s_G
  clear s_G G
  have t_K : HasBlk (w2.alloc (.cells #[.int .i64 f.W, .int .i64 f.H, .slice q.ac f.nc q.kc, .slice q.ad f.nd q.kd, .slice q.ai f.ni q.ki, .slice q.a4 f.nt q.kt] 29)) (w.heap.size + 1 + 1) 23 #[.int .u8 (c 0), .int .u8 (c 1), .int .u8 (c 2), .int .u8 (c 3)] := by simpa using s_K
  clear s_K K
  have t_R : HasBlk (w2.alloc (.cells #[.int .i64 f.W, .int .i64 f.H, .slice q.ac f.nc q.kc, .slice q.ad f.nd q.kd, .slice q.ai f.ni q.ki, .slice q.a4 f.nt q.kt] 29)) (w.heap.size + 1 + 1 + 1) 29 #[.int .i64 0, .int .i64 0, .slice none 0 0, .slice none 0 0, .slice none 0 0, .slice none 0 0] := by simpa using s_R
  clear s_R R
  have t_T : HasBlk (w2.alloc (.cells #[.int .i64 f.W, .int .i64 f.H, .slice q.ac f.nc q.kc, .slice q.ad f.nd q.kd, .slice q.ai f.ni q.ki, .slice q.a4 f.nt q.kt] 29)) (w2.heap.size) 29 #[.int .i64 f.W, .int .i64 f.H, .slice q.ac f.nc q.kc, .slice q.ad f.nd q.kd, .slice q.ai f.ni q.ki, .slice q.a4 f.nt q.kt] := by simpa using s_T
  clear s_T
  have SB4 : Below w.heap.size w (w2.alloc (.cells #[.int .i64 f.W, .int .i64 f.H, .slice q.ac f.nc q.kc, .slice q.ad f.nd q.kd, .slice q.ai f.ni q.ki, .slice q.a4 f.nt q.kt] 29)) := by
    have bel0 := SB3h.out
    repeat' (first | exact Below.refl _ _ | assumption | apply Below.drew | refine Below.setCell ?_ (by first | omega | (simp; done) | (simp; omega)) _ | refine Below.alloc ?_ (by first | omega | (simp; done) | (simp; omega)) _)
  clear lt_P P_0 P_1 P_2 P_3 P_4 P_5 lt_G G_0 G_1 G_2 G_3 G_4 G_5 lt_K K_0 K_1 K_2 K_3 lt_R R_0 R_1 R_2 R_3 R_4 R_5 R_f0 R_f1 R_f2 R_f3 R_f4 R_f5
  generalize gW_v1 : (w2.alloc (.cells #[.int .i64 f.W, .int .i64 f.H, .slice q.ac f.nc q.kc, .slice q.ad f.nd q.kd, .slice q.ai f.ni q.ki, .slice q.a4 f.nt q.kt] 29)) = v1 at *
  clear gW_v1
  have P := Lib.hid t_P
  clear t_P
  have G := Lib.hid t_G
  clear t_G
  have K := Lib.hid t_K
  clear t_K
  have R := Lib.hid t_R
  clear t_R
  have T := Lib.hid t_T
  clear t_T
  clear SB3h
  have SB4h := Lib.hid SB4
  clear SB4
  have HO := Lib.hid HOa
  clear HOa
  refine (set_any q f x y d i t p9 u v c k w1.heap.size v1 HO.out szv Hm.out.1 Hm.out.2 Hk.out.1 Hk.out.2).mono ?_
  rintro e w3 ⟨rfl, ho, bel3, hkp⟩
  have T3 := hkp _ _ T.out
  have R3 := hkp _ _ R.out
  have SB9h := Lib.hid (SB4h.out.trans (bel3.mono szw))
  have O3 := Lib.hid ho
  clear ho bel3 hkp T R P K G HO SB4h
  have tT := T3.lt
  have tR := R3.lt
  have T_0 := T3.cell 0
  have R_0 := R3.cell 0
  have R_f0 := R3.frozen 0
  have T_1 := T3.cell 1
  have R_1 := R3.cell 1
  have R_f1 := R3.frozen 1
  have T_2 := T3.cell 2
  have R_2 := R3.cell 2
  have R_f2 := R3.frozen 2
  have T_3 := T3.cell 3
  have R_3 := R3.cell 3
  have R_f3 := R3.frozen 3
  have T_4 := T3.cell 4
  have R_4 := R3.cell 4
  have R_f4 := R3.frozen 4
  have T_5 := T3.cell 5
  have R_5 := R3.cell 5
  have R_f5 := R3.frozen 5
  simp at T_0 R_0 T_1 R_1 T_2 R_2 T_3 R_3 T_4 R_4 T_5 R_5
  go_wp2
  obtain ⟨g, hg⟩ : ∃ g, g = (f.put k d i t c) := ⟨_, rfl⟩
  obtain ⟨e1, e2, e3, e4, e5, e6⟩ : g.W = f.W ∧ g.H = f.H ∧ g.nc = f.nc ∧ g.nd = f.nd ∧ g.ni = f.ni ∧ g.nt = f.nt := by rw [hg]; exact FD.put_W f k d i t c
  have O4 := O3.out
  rw [← hg] at O4
  refine bodyPost_ret (v := .tuple #[.agg #[.int .i64 f.W, .int .i64 f.H, .slice q.ac f.nc q.kc, .slice q.ad f.nd q.kd, .slice q.ai f.ni q.ki, .slice q.a4 f.nt q.kt], .int .i64 0]) (by simp [results, Try.results21, go_sem, *]) rfl ⟨⟨q, g, 0, by rw [e1, e2, e3, e4, e5, e6], FOwn.base (FOwn.far (g := w.heap.size + 1 + 1 + 1) (j := 5) (FOwn.far (g := w.heap.size + 1 + 1 + 1) (j := 4) (FOwn.far (g := w.heap.size + 1 + 1 + 1) (j := 3) (FOwn.far (g := w.heap.size + 1 + 1 + 1) (j := 2) (FOwn.far (g := w.heap.size + 1 + 1 + 1) (j := 1) (FOwn.far (g := w.heap.size + 1 + 1 + 1) (j := 0) O4 ltR1 _) ltR1 _) ltR1 _) ltR1 _) ltR1 _) ltR1 _) szw, .inr (.inr ⟨Hm.out.1, Hm.out.2, Hs.out, rfl, k, Hk.out.1, Hk.out.2, hg⟩)⟩, ?_⟩
  exact (Below.setCell (p := ⟨w.heap.size + 1 + 1 + 1, 5, none⟩) (Below.setCell (p := ⟨w.heap.size + 1 + 1 + 1, 4, none⟩) (Below.setCell (p := ⟨w.heap.size + 1 + 1 + 1, 3, none⟩) (Below.setCell (p := ⟨w.heap.size + 1 + 1 + 1, 2, none⟩) (Below.setCell (p := ⟨w.heap.size + 1 + 1 + 1, 1, none⟩) (Below.setCell (p := ⟨w.heap.size + 1 + 1 + 1, 0, none⟩) SB9h.out LE_R _) LE_R _) LE_R _) LE_R _) LE_R _) LE_R _)

set_option maxRecDepth 100000 in
set_option maxHeartbeats 8000000 in
theorem reflay_any (p : FP) (f : FD) (x y : Int) (d : Int) (c : Nat → Int) (w : World) (h : FOk w p f) (hfit : f.Fits) (hc : Byte (c 3)) (hu : ∀ j, Byte (f.C j 3)) : Calls Try.prog 23 #[.agg #[.int .i64 f.W, .int .i64 f.H, .slice p.ac f.nc p.kc, .slice p.ad f.nd p.kd, .slice p.ai f.ni p.ki, .slice p.a4 f.nt p.kt], .int .i64 x, .int .i64 y, .int .i64 d, .agg #[.int .u8 (c 0), .int .u8 (c 1), .int .u8 (c 2), .int .u8 (c 3)]] w fun e w' => FRO (LayV f x y d c) w.heap.size e w' ∧ Below w.heap.size w w' := by
  have HF := Lib.hid h
  have LE_R : w.heap.size ≤ w.heap.size + 1 + 1 := by omega
  clear h
  go_enter Try.func23, Try.ntmps23
  go_wp2_with fail
  have NE_P_K := Lib.hid (show w.heap.size ≠ w.heap.size + 1 by omega)
  have NE_P_R := Lib.hid (show w.heap.size ≠ w.heap.size + 1 + 1 by omega)
  have NE_K_R := Lib.hid (show w.heap.size + 1 ≠ w.heap.size + 1 + 1 by omega)
  have s_P : HasBlk (w.alloc (.cells #[.int .i64 f.W, .int .i64 f.H, .slice p.ac f.nc p.kc, .slice p.ad f.nd p.kd, .slice p.ai f.ni p.ki, .slice p.a4 f.nt p.kt] 29)) (w.heap.size) 29 #[.int .i64 f.W, .int .i64 f.H, .slice p.ac f.nc p.kc, .slice p.ad f.nd p.kd, .slice p.ai f.ni p.ki, .slice p.a4 f.nt p.kt] := by simpa using hasBlk_new w 29 #[.int .i64 f.W, .int .i64 f.H, .slice p.ac f.nc p.kc, .slice p.ad f.nd p.kd, .slice p.ai f.ni p.ki, .slice p.a4 f.nt p.kt]
  replace s_P := s_P.alloc (.cells #[.int .u8 (c 0), .int .u8 (c 1), .int .u8 (c 2), .int .u8 (c 3)] 23)
  have s_K : HasBlk ((w.alloc (.cells #[.int .i64 f.W, .int .i64 f.H, .slice p.ac f.nc p.kc, .slice p.ad f.nd p.kd, .slice p.ai f.ni p.ki, .slice p.a4 f.nt p.kt] 29)).alloc (.cells #[.int .u8 (c 0), .int .u8 (c 1), .int .u8 (c 2), .int .u8 (c 3)] 23)) (w.heap.size + 1) 23 #[.int .u8 (c 0), .int .u8 (c 1), .int .u8 (c 2), .int .u8 (c 3)] := by simpa using hasBlk_new (w.alloc (.cells #[.int .i64 f.W, .int .i64 f.H, .slice p.ac f.nc p.kc, .slice p.ad f.nd p.kd, .slice p.ai f.ni p.ki, .slice p.a4 f.nt p.kt] 29)) 23 #[.int .u8 (c 0), .int .u8 (c 1), .int .u8 (c 2), .int .u8 (c 3)]
  replace s_P := s_P.alloc (.cells #[.int .i64 0, .int .i64 0, .slice none 0 0, .slice none 0 0, .slice none 0 0, .slice none 0 0] 29)
  replace s_K := s_K.alloc (.cells #[.int .i64 0, .int .i64 0, .slice none 0 0, .slice none 0 0, .slice none 0 0, .slice none 0 0] 29)
  have s_R : HasBlk (((w.alloc (.cells #[.int .i64 f.W, .int .i64 f.H, .slice p.ac f.nc p.kc, .slice p.ad f.nd p.kd, .slice p.ai f.ni p.ki, .slice p.a4 f.nt p.kt] 29)).alloc (.cells #[.int .u8 (c 0), .int .u8 (c 1), .int .u8 (c 2), .int .u8 (c 3)] 23)).alloc (.cells #[.int .i64 0, .int .i64 0, .slice none 0 0, .slice none 0 0, .slice none 0 0, .slice none 0 0] 29)) (w.heap.size + 1 + 1) 29 #[.int .i64 0, .int .i64 0, .slice none 0 0, .slice none 0 0, .slice none 0 0, .slice none 0 0] := by simpa using hasBlk_new ((w.alloc (.cells #[.int .i64 f.W, .int .i64 f.H, .slice p.ac f.nc p.kc, .slice p.ad f.nd p.kd, .slice p.ai f.ni p.ki, .slice p.a4 f.nt p.kt] 29)).alloc (.cells #[.int .u8 (c 0), .int .u8 (c 1), .int .u8 (c 2), .int .u8 (c 3)] 23)) 29 #[.int .i64 0, .int .i64 0, .slice none 0 0, .slice none 0 0, .slice none 0 0, .slice none 0 0]
  have t_P : HasBlk (((w.alloc (.cells #[.int .i64 f.W, .int .i64 f.H, .slice p.ac f.nc p.kc, .slice p.ad f.nd p.kd, .slice p.ai f.ni p.ki, .slice p.a4 f.nt p.kt] 29)).alloc (.cells #[.int .u8 (c 0), .int .u8 (c 1), .int .u8 (c 2), .int .u8 (c 3)] 23)).alloc (.cells #[.int .i64 0, .int .i64 0, .slice none 0 0, .slice none 0 0, .slice none 0 0, .slice none 0 0] 29)) (w.heap.size) 29 #[.int .i64 f.W, .int .i64 f.H, .slice p.ac f.nc p.kc, .slice p.ad f.nd p.kd, .slice p.ai f.ni p.ki, .slice p.a4 f.nt p.kt] := by simpa using s_P
  clear s_P
  have t_K : HasBlk (((w.alloc (.cells #[.int .i64 f.W, .int .i64 f.H, .slice p.ac f.nc p.kc, .slice p.ad f.nd p.kd, .slice p.ai f.ni p.ki, .slice p.a4 f.nt p.kt] 29)).alloc (.cells #[.int .u8 (c 0), .int .u8 (c 1), .int .u8 (c 2), .int .u8 (c 3)] 23)).alloc (.cells #[.int .i64 0, .int .i64 0, .slice none 0 0, .slice none 0 0, .slice none 0 0, .slice none 0 0] 29)) (w.heap.size + 1) 23 #[.int .u8 (c 0), .int .u8 (c 1), .int .u8 (c 2), .int .u8 (c 3)] := by simpa using s_K
  clear s_K
  have t_R : HasBlk (((w.alloc (.cells #[.int .i64 f.W, .int .i64 f.H, .slice p.ac f.nc p.kc, .slice p.ad f.nd p.kd, .slice p.ai f.ni p.ki, .slice p.a4 f.nt p.kt] 29)).alloc (.cells #[.int .u8 (c 0), .int .u8 (c 1), .int .u8 (c 2), .int .u8 (c 3)] 23)).alloc (.cells #[.int .i64 0, .int .i64 0, .slice none 0 0, .slice none 0 0, .slice none 0 0, .slice none 0 0] 29)) (w.heap.size + 1 + 1) 29 #[.int .i64 0, .int .i64 0, .slice none 0 0, .slice none 0 0, .slice none 0 0, .slice none 0 0] := by simpa using s_R
  clear s_R
  have SB1 : Below w.heap.size w (((w.alloc (.cells #[.int .i64 f.W, .int .i64 f.H, .slice p.ac f.nc p.kc, .slice p.ad f.nd p.kd, .slice p.ai f.ni p.ki, .slice p.a4 f.nt p.kt] 29)).alloc (.cells #[.int .u8 (c 0), .int .u8 (c 1), .int .u8 (c 2), .int .u8 (c 3)] 23)).alloc (.cells #[.int .i64 0, .int .i64 0, .slice none 0 0, .slice none 0 0, .slice none 0 0, .slice none 0 0] 29)) := by
    repeat' (first | exact Below.refl _ _ | assumption | apply Below.drew | refine Below.setCell ?_ (by first | omega | (simp; done) | (simp; omega)) _ | refine Below.alloc ?_ (by first | omega | (simp; done) | (simp; omega)) _)
  generalize gW_v0 : (((w.alloc (.cells #[.int .i64 f.W, .int .i64 f.H, .slice p.ac f.nc p.kc, .slice p.ad f.nd p.kd, .slice p.ai f.ni p.ki, .slice p.a4 f.nt p.kt] 29)).alloc (.cells #[.int .u8 (c 0), .int .u8 (c 1), .int .u8 (c 2), .int .u8 (c 3)] 23)).alloc (.cells #[.int .i64 0, .int .i64 0, .slice none 0 0, .slice none 0 0, .slice none 0 0, .slice none 0 0] 29)) = v0 at *
  clear gW_v0
  have P := Lib.hid t_P
  clear t_P
  have K := Lib.hid t_K
  clear t_K
  have R := Lib.hid t_R
  clear t_R
  have SB1h := Lib.hid SB1
  clear SB1
  have ltR0 := R.out.lt
  refine (asked_any p f x y _ (HF.out.below SB1h.out)).mono ?_
  rintro e w1 ⟨⟨z, rfl, hz⟩, bel1⟩
  have t_P := P.out.below bel1
  clear P
  have P := Lib.hid t_P
  clear t_P
  have t_K := K.out.below bel1
  clear K
  have K := Lib.hid t_K
  clear t_K
  have t_R := R.out.below bel1
  clear R
  have R := Lib.hid t_R
  clear t_R
  have SB2 : Below w.heap.size w w1 := SB1h.out.trans (bel1.mono SB1h.out.size)
  clear SB1h
  have SB2h := Lib.hid SB2
  clear SB2 bel1
  have lt_P := P.out.lt
  have P_0 := P.out.cell 0
  have P_1 := P.out.cell 1
  have P_2 := P.out.cell 2
  have P_3 := P.out.cell 3
  have P_4 := P.out.cell 4
  have P_5 := P.out.cell 5
  simp at P_0 P_1 P_2 P_3 P_4 P_5
  have lt_K := K.out.lt
  have K_0 := K.out.cell 0
  have K_1 := K.out.cell 1
  have K_2 := K.out.cell 2
  have K_3 := K.out.cell 3
  simp at K_0 K_1 K_2 K_3
  have lt_R := R.out.lt
  have R_0 := R.out.cell 0
  have R_1 := R.out.cell 1
  have R_2 := R.out.cell 2
  have R_3 := R.out.cell 3
  have R_4 := R.out.cell 4
  have R_5 := R.out.cell 5
  have R_f0 := R.out.frozen 0
  have R_f1 := R.out.frozen 1
  have R_f2 := R.out.frozen 2
  have R_f3 := R.out.frozen 3
  have R_f4 := R.out.frozen 4
  have R_f5 := R.out.frozen 5
  simp at R_0 R_1 R_2 R_3 R_4 R_5
  have szB_w1 := SB2h.out.size
  rcases hz with ⟨hm, rfl⟩ | ⟨hm, hi, rfl⟩ | ⟨hm, hi, rfl⟩
  · have Hm := Lib.hid hm
    clear hm
    go_wp2
    refine bodyPost_ret (v := .tuple #[.agg #[.int .i64 0, .int .i64 0, .slice none 0 0, .slice none 0 0, .slice none 0 0, .slice none 0 0], .int .i64 8]) (by simp [results, Try.results23, go_sem, *]) rfl ⟨FRO.zero (.inl ⟨Hm.out, rfl, rfl⟩), ?_⟩
    exact (Below.setCell (p := ⟨w.heap.size + 1 + 1, 5, none⟩) (Below.setCell (p := ⟨w.heap.size + 1 + 1, 4, none⟩) (Below.setCell (p := ⟨w.heap.size + 1 + 1, 3, none⟩) (Below.setCell (p := ⟨w.heap.size + 1 + 1, 2, none⟩) (Below.setCell (p := ⟨w.heap.size + 1 + 1, 1, none⟩) (Below.setCell (p := ⟨w.heap.size + 1 + 1, 0, none⟩) SB2h.out LE_R _) LE_R _) LE_R _) LE_R _) LE_R _) LE_R _)
  · have Hm := Lib.hid (And.intro hm hi)
    clear hm hi
    go_wp2
    refine bodyPost_ret (v := .tuple #[.agg #[.int .i64 0, .int .i64 0, .slice none 0 0, .slice none 0 0, .slice none 0 0, .slice none 0 0], .int .i64 2]) (by simp [results, Try.results23, go_sem, *]) rfl ⟨FRO.zero (.inr (.inl ⟨Hm.out.1, fun z => Hm.out.2 z.1, rfl, rfl⟩)), ?_⟩
    exact (Below.setCell (p := ⟨w.heap.size + 1 + 1, 5, none⟩) (Below.setCell (p := ⟨w.heap.size + 1 + 1, 4, none⟩) (Below.setCell (p := ⟨w.heap.size + 1 + 1, 3, none⟩) (Below.setCell (p := ⟨w.heap.size + 1 + 1, 2, none⟩) (Below.setCell (p := ⟨w.heap.size + 1 + 1, 1, none⟩) (Below.setCell (p := ⟨w.heap.size + 1 + 1, 0, none⟩) SB2h.out LE_R _) LE_R _) LE_R _) LE_R _) LE_R _) LE_R _)
  have Hm := Lib.hid (And.intro hm hi)
  obtain ⟨k, hk, hl1, hl2, hl3, hl4⟩ := FD.place hm hi
  have Hk := Lib.hid (And.intro hk (And.intro hl1 (And.intro hl2 (And.intro hl3 hl4))))
  clear hm hi hk hl1 hl2 hl3 hl4
  go_wp2_with fail
  have hsb := refdeep_any d w1
  by_cases hs : DeepP d
  rotate_left
  · rw [show decide (-1024 ≤ d ∧ d ≤ 66560) = false from decide_eq_false hs] at hsb
    have Hs := Lib.hid hs
    clear hs
    refine hsb.mono ?_
    rintro e w2 ⟨rfl, hw⟩
    obtain rfl := hw.symm
    clear hsb
    go_wp2
    refine bodyPost_ret (v := .tuple #[.agg #[.int .i64 0, .int .i64 0, .slice none 0 0, .slice none 0 0, .slice none 0 0, .slice none 0 0], .int .i64 2]) (by simp [results, Try.results23, go_sem, *]) rfl ⟨FRO.zero (.inr (.inl ⟨Hm.out.1, fun z => Hs.out z.2, rfl, rfl⟩)), ?_⟩
    exact (Below.setCell (p := ⟨w.heap.size + 1 + 1, 5, none⟩) (Below.setCell (p := ⟨w.heap.size + 1 + 1, 4, none⟩) (Below.setCell (p := ⟨w.heap.size + 1 + 1, 3, none⟩) (Below.setCell (p := ⟨w.heap.size + 1 + 1, 2, none⟩) (Below.setCell (p := ⟨w.heap.size + 1 + 1, 1, none⟩) (Below.setCell (p := ⟨w.heap.size + 1 + 1, 0, none⟩) SB2h.out LE_R _) LE_R _) LE_R _) LE_R _) LE_R _) LE_R _)
  rw [show decide (-1024 ≤ d ∧ d ≤ 66560) = true from decide_eq_true hs] at hsb
  have Hs := Lib.hid hs
  clear hs
  refine hsb.mono ?_
  rintro e w2 ⟨rfl, hw⟩
  obtain rfl := hw.symm
  clear hsb
  have ltR1 := R.out.lt
  have szw : w.heap.size ≤ w1.heap.size := SB2h.out.size
  go_wp2_with fail
  refine (reftwin_any p f _ (HF.out.below SB2h.out) hfit).mono ?_
  rintro e w2 ⟨⟨q, rfl, ho⟩, bel2⟩
  have HO := Lib.hid ho
  have sz2 := bel2.size
  clear ho lt_P P_0 P_1 P_2 P_3 P_4 P_5 lt_K K_0 K_1 K_2 K_3 lt_R R_0 R_1 R_2 R_3 R_4 R_5 R_f0 R_f1 R_f2 R_f3 R_f4 R_f5
  have t_P := P.out.below bel2
  clear P
  have P := Lib.hid t_P
  clear t_P
  have t_K := K.out.below bel2
  clear K
  have K := Lib.hid t_K
  clear t_K
  have t_R := R.out.below bel2
  clear R
  have R := Lib.hid t_R
  clear t_R
  have SB3 : Below w.heap.size w w2 := SB2h.out.trans (bel2.mono SB2h.out.size)
  clear SB2h
  have SB3h := Lib.hid SB3
  clear SB3 bel2
  have lt_P := P.out.lt
  have P_0 := P.out.cell 0
  have P_1 := P.out.cell 1
  have P_2 := P.out.cell 2
  have P_3 := P.out.cell 3
  have P_4 := P.out.cell 4
  have P_5 := P.out.cell 5
  simp at P_0 P_1 P_2 P_3 P_4 P_5
  have lt_K := K.out.lt
  have K_0 := K.out.cell 0
  have K_1 := K.out.cell 1
  have K_2 := K.out.cell 2
  have K_3 := K.out.cell 3
  simp at K_0 K_1 K_2 K_3
  have lt_R := R.out.lt
  have R_0 := R.out.cell 0
  have R_1 := R.out.cell 1
  have R_2 := R.out.cell 2
  have R_3 := R.out.cell 3
  have R_4 := R.out.cell 4
  have R_5 := R.out.cell 5
  have R_f0 := R.out.frozen 0
  have R_f1 := R.out.frozen 1
  have R_f2 := R.out.frozen 2
  have R_f3 := R.out.frozen 3
  have R_f4 := R.out.frozen 4
  have R_f5 := R.out.frozen 5
  simp at R_0 R_1 R_2 R_3 R_4 R_5
  have szB_w2 := SB3h.out.size
  go_wp2_with fail
  have HOa := HO.out.below ((Below.refl w2.heap.size w2).alloc (Nat.le_refl _) (.cells #[.int .i64 f.W, .int .i64 f.H, .slice q.ac f.nc q.kc, .slice q.ad f.nd q.kd, .slice q.ai f.ni q.ki, .slice q.a4 f.nt q.kt] 29))
  clear HO
  have szv : w1.heap.size ≤ (w2.alloc (.cells #[.int .i64 f.W, .int .i64 f.H, .slice q.ac f.nc q.kc, .slice q.ad f.nd q.kd, .slice q.ai f.ni q.ki, .slice q.a4 f.nt q.kt] 29)).heap.size := by simp; omega
  have NE_P_T := Lib.hid (show w.heap.size ≠ w2.heap.size by omega)
  have NE_K_T := Lib.hid (show w.heap.size + 1 ≠ w2.heap.size by omega)
  have NE_R_T := Lib.hid (show w.heap.size + 1 + 1 ≠ w2.heap.size by omega)
  have s_P := P.out
  have s_K := K.out
  have s_R := R.out
  replace s_P := s_P.alloc (.cells #[.int .i64 f.W, .int .i64 f.H, .slice q.ac f.nc q.kc, .slice q.ad f.nd q.kd, .slice q.ai f.ni q.ki, .slice q.a4 f.nt q.kt] 29)
  replace s_K := s_K.alloc (.cells #[.int .i64 f.W, .int .i64 f.H, .slice q.ac f.nc q.kc, .slice q.ad f.nd q.kd, .slice q.ai f.ni q.ki, .slice q.a4 f.nt q.kt] 29)
  replace s_R := s_R.alloc (.cells #[.int .i64 f.W, .int .i64 f.H, .slice q.ac f.nc q.kc, .slice q.ad f.nd q.kd, .slice q.ai f.ni q.ki, .slice q.a4 f.nt q.kt] 29)
  have s_T : HasBlk (w2.alloc (.cells #[.int .i64 f.W, .int .i64 f.H, .slice q.ac f.nc q.kc, .slice q.ad f.nd q.kd, .slice q.ai f.ni q.ki, .slice q.a4 f.nt q.kt] 29)) (w2.heap.size) 29 #[.int .i64 f.W, .int .i64 f.H, .slice q.ac f.nc q.kc, .slice q.ad f.nd q.kd, .slice q.ai f.ni q.ki, .slice q.a4 f.nt q.kt] := by simpa using hasBlk_new w2 29 #[.int .i64 f.W, .int .i64 f.H, .slice q.ac f.nc q.kc, .slice q.ad f.nd q.kd, .slice q.ai f.ni q.ki, .slice q.a4 f.nt q.kt]
  have t_P : HasBlk (w2.alloc (.cells #[.int .i64 f.W, .int .i64 f.H, .slice q.ac f.nc q.kc, .slice q.ad f.nd q.kd, .slice q.ai f.ni q.ki, .slice q.a4 f.nt q.kt] 29)) (w.heap.size) 29 #[.int .i64 f.W, .int .i64 f.H, .slice p.ac f.nc p.kc, .slice p.ad f.nd p.kd, .slice p.ai f.ni p.ki, .slice p.a4 f.nt p.kt] := by simpa using s_P
  clear s_P P
  have t_K : HasBlk (w2.alloc (.cells #[.int .i64 f.W, .int .i64 f.H, .slice q.ac f.nc q.kc, .slice q.ad f.nd q.kd, .slice q.ai f.ni q.ki, .slice q.a4 f.nt q.kt] 29)) (w.heap.size + 1) 23 #[.int .u8 (c 0), .int .u8 (c 1), .int .u8 (c 2), .int .u8 (c 3)] := by simpa using s_K
  clear s_K K
  have t_R : HasBlk (w2.alloc (.cells #[.int .i64 f.W, .int .i64 f.H, .slice q.ac f.nc q.kc, .slice q.ad f.nd q.kd, .slice q.ai f.ni q.ki, .slice q.a4 f.nt q.kt] 29)) (w.heap.size + 1 + 1) 29 #[.int .i64 0, .int .i64 0, .slice none 0 0, .slice none 0 0, .slice none 0 0, .slice none 0 0] := by simpa using s_R
  clear s_R R
  have t_T : HasBlk (w2.alloc (.cells #[.int .i64 f.W, .int .i64 f.H, .slice q.ac f.nc q.kc, .slice q.ad f.nd q.kd, .slice q.ai f.ni q.ki, .slice q.a4 f.nt q.kt] 29)) (w2.heap.size) 29 #[.int .i64 f.W, .int .i64 f.H, .slice q.ac f.nc q.kc, .slice q.ad f.nd q.kd, .slice q.ai f.ni q.ki, .slice q.a4 f.nt q.kt] := by simpa using s_T
  clear s_T
  have SB4 : Below w.heap.size w (w2.alloc (.cells #[.int .i64 f.W, .int .i64 f.H, .slice q.ac f.nc q.kc, .slice q.ad f.nd q.kd, .slice q.ai f.ni q.ki, .slice q.a4 f.nt q.kt] 29)) := by
    have bel0 := SB3h.out
    repeat' (first | exact Below.refl _ _ | assumption | apply Below.drew | refine Below.setCell ?_ (by first | omega | (simp; done) | (simp; omega)) _ | refine Below.alloc ?_ (by first | omega | (simp; done) | (simp; omega)) _)
  clear lt_P P_0 P_1 P_2 P_3 P_4 P_5 lt_K K_0 K_1 K_2 K_3 lt_R R_0 R_1 R_2 R_3 R_4 R_5 R_f0 R_f1 R_f2 R_f3 R_f4 R_f5
  generalize gW_v1 : (w2.alloc (.cells #[.int .i64 f.W, .int .i64 f.H, .slice q.ac f.nc q.kc, .slice q.ad f.nd q.kd, .slice q.ai f.ni q.ki, .slice q.a4 f.nt q.kt] 29)) = v1 at *
  clear gW_v1
  have P := Lib.hid t_P
  clear t_P
  have K := Lib.hid t_K
  clear t_K
  have R := Lib.hid t_R
  clear t_R
  have T := Lib.hid t_T
  clear t_T
  clear SB3h
  have SB4h := Lib.hid SB4
  clear SB4
  have HO := Lib.hid HOa
  clear HOa
  refine (cover_any q f x y d c k w1.heap.size v1 HO.out szv Hm.out.1 Hm.out.2 Hk.out.1 Hk.out.2 hc hu).mono ?_
  rintro e w3 ⟨rfl, ho, bel3, hkp⟩
  have T3 := hkp _ _ T.out
  have R3 := hkp _ _ R.out
  have SB9h := Lib.hid (SB4h.out.trans (bel3.mono szw))
  have O3 := Lib.hid ho
  clear ho bel3 hkp T R P K HO SB4h
  have tT := T3.lt
  have tR := R3.lt
  have T_0 := T3.cell 0
  have R_0 := R3.cell 0
  have R_f0 := R3.frozen 0
  have T_1 := T3.cell 1
  have R_1 := R3.cell 1
  have R_f1 := R3.frozen 1
  have T_2 := T3.cell 2
  have R_2 := R3.cell 2
  have R_f2 := R3.frozen 2
  have T_3 := T3.cell 3
  have R_3 := R3.cell 3
  have R_f3 := R3.frozen 3
  have T_4 := T3.cell 4
  have R_4 := R3.cell 4
  have R_f4 := R3.frozen 4
  have T_5 := T3.cell 5
  have R_5 := R3.cell 5
  have R_f5 := R3.frozen 5
  simp at T_0 R_0 T_1 R_1 T_2 R_2 T_3 R_3 T_4 R_4 T_5 R_5
  go_wp2
  obtain ⟨g, hg⟩ : ∃ g, g = (f.lay k d c) := ⟨_, rfl⟩
  obtain ⟨e1, e2, e3, e4, e5, e6⟩ : g.W = f.W ∧ g.H = f.H ∧ g.nc = f.nc ∧ g.nd = f.nd ∧ g.ni = f.ni ∧ g.nt = f.nt := by rw [hg]; exact lay_W f k d c
  have O4 := O3.out
  rw [← hg] at O4
  refine bodyPost_ret (v := .tuple #[.agg #[.int .i64 f.W, .int .i64 f.H, .slice q.ac f.nc q.kc, .slice q.ad f.nd q.kd, .slice q.ai f.ni q.ki, .slice q.a4 f.nt q.kt], .int .i64 0]) (by simp [results, Try.results23, go_sem, *]) rfl ⟨⟨q, g, 0, by rw [e1, e2, e3, e4, e5, e6], FOwn.base (FOwn.far (g := w.heap.size + 1 + 1) (j := 5) (FOwn.far (g := w.heap.size + 1 + 1) (j := 4) (FOwn.far (g := w.heap.size + 1 + 1) (j := 3) (FOwn.far (g := w.heap.size + 1 + 1) (j := 2) (FOwn.far (g := w.heap.size + 1 + 1) (j := 1) (FOwn.far (g := w.heap.size + 1 + 1) (j := 0) O4 ltR1 _) ltR1 _) ltR1 _) ltR1 _) ltR1 _) ltR1 _) szw, .inr (.inr ⟨Hm.out.1, Hm.out.2, Hs.out, rfl, k, Hk.out.1, Hk.out.2, hg⟩)⟩, ?_⟩
  exact (Below.setCell (p := ⟨w.heap.size + 1 + 1, 5, none⟩) (Below.setCell (p := ⟨w.heap.size + 1 + 1, 4, none⟩) (Below.setCell (p := ⟨w.heap.size + 1 + 1, 3, none⟩) (Below.setCell (p := ⟨w.heap.size + 1 + 1, 2, none⟩) (Below.setCell (p := ⟨w.heap.size + 1 + 1, 1, none⟩) (Below.setCell (p := ⟨w.heap.size + 1 + 1, 0, none⟩) SB9h.out LE_R _) LE_R _) LE_R _) LE_R _) LE_R _) LE_R _)
end Go.Proofs.Ytibeoeooajelgaa
