/- frame.Put. -/
import Derived.Test.YtibeoeooajelgaaFQ
import Derived.Deep.RegionHeld
namespace Go.Proofs.Ytibeoeooajelgaa
open Go.RowKit
set_option linter.unusedVariables false

set_option maxRecDepth 100000 in
set_option maxHeartbeats 8000000 in
theorem put_any (p : FP) (f : FD) (x y d i t p9 u v : Int) (c : Nat → Int) (w : World) (h : FOk w p f) : Calls Try.prog 20 #[.agg #[.int .i64 f.W, .int .i64 f.H, .slice p.ac f.nc p.kc, .slice p.ad f.nd p.kd, .slice p.ai f.ni p.ki, .slice p.a4 f.nt p.kt], .int .i64 x, .int .i64 y, .agg #[.int .i64 d, .int .i64 i, .int .i64 t, .int .i64 p9, .int .i64 u, .int .i64 v], .agg #[.int .u8 (c 0), .int .u8 (c 1), .int .u8 (c 2), .int .u8 (c 3)]] w fun e w' => FRO (PutV f x y d i t c) w.heap.size e w' ∧ Below w.heap.size w w' := by
  obtain ⟨W, H, nc, nd, ni, nt, C, D, I, T⟩ := f
  obtain ⟨ac, ad, ai, a4, kc, kd, ki, kt⟩ := p
  have htw := Lib.hid (fun W' (hb : Below w.heap.size w W') => twin_any ⟨ac, ad, ai, a4, kc, kd, ki, kt⟩ ⟨W, H, nc, nd, ni, nt, C, D, I, T⟩ x y W' (h.below hb))
  clear h
  dsimp only at htw ⊢
  go_enter Try.func20, Try.ntmps20
  go_wp2_with fail
  have NE_P_G := Lib.hid (show w.heap.size ≠ w.heap.size + 1 by omega)
  have NE_P_K := Lib.hid (show w.heap.size ≠ w.heap.size + 1 + 1 by omega)
  have NE_G_K := Lib.hid (show w.heap.size + 1 ≠ w.heap.size + 1 + 1 by omega)
  have NE_P_R := Lib.hid (show w.heap.size ≠ w.heap.size + 1 + 1 + 1 by omega)
  have NE_G_R := Lib.hid (show w.heap.size + 1 ≠ w.heap.size + 1 + 1 + 1 by omega)
  have NE_K_R := Lib.hid (show w.heap.size + 1 + 1 ≠ w.heap.size + 1 + 1 + 1 by omega)
  have s_P : HasBlk (w.alloc (.cells #[.int .i64 W, .int .i64 H, .slice ac nc kc, .slice ad nd kd, .slice ai ni ki, .slice a4 nt kt] 29)) (w.heap.size) 29 #[.int .i64 W, .int .i64 H, .slice ac nc kc, .slice ad nd kd, .slice ai ni ki, .slice a4 nt kt] := by simpa using hasBlk_new w 29 #[.int .i64 W, .int .i64 H, .slice ac nc kc, .slice ad nd kd, .slice ai ni ki, .slice a4 nt kt]
  replace s_P := s_P.alloc (.cells #[.int .i64 d, .int .i64 i, .int .i64 t, .int .i64 p9, .int .i64 u, .int .i64 v] 25)
  have s_G : HasBlk ((w.alloc (.cells #[.int .i64 W, .int .i64 H, .slice ac nc kc, .slice ad nd kd, .slice ai ni ki, .slice a4 nt kt] 29)).alloc (.cells #[.int .i64 d, .int .i64 i, .int .i64 t, .int .i64 p9, .int .i64 u, .int .i64 v] 25)) (w.heap.size + 1) 25 #[.int .i64 d, .int .i64 i, .int .i64 t, .int .i64 p9, .int .i64 u, .int .i64 v] := by simpa using hasBlk_new (w.alloc (.cells #[.int .i64 W, .int .i64 H, .slice ac nc kc, .slice ad nd kd, .slice ai ni ki, .slice a4 nt kt] 29)) 25 #[.int .i64 d, .int .i64 i, .int .i64 t, .int .i64 p9, .int .i64 u, .int .i64 v]
  replace s_P := s_P.alloc (.cells #[.int .u8 (c 0), .int .u8 (c 1), .int .u8 (c 2), .int .u8 (c 3)] 23)
  replace s_G := s_G.alloc (.cells #[.int .u8 (c 0), .int .u8 (c 1), .int .u8 (c 2), .int .u8 (c 3)] 23)
  have s_K : HasBlk (((w.alloc (.cells #[.int .i64 W, .int .i64 H, .slice ac nc kc, .slice ad nd kd, .slice ai ni ki, .slice a4 nt kt] 29)).alloc (.cells #[.int .i64 d, .int .i64 i, .int .i64 t, .int .i64 p9, .int .i64 u, .int .i64 v] 25)).alloc (.cells #[.int .u8 (c 0), .int .u8 (c 1), .int .u8 (c 2), .int .u8 (c 3)] 23)) (w.heap.size + 1 + 1) 23 #[.int .u8 (c 0), .int .u8 (c 1), .int .u8 (c 2), .int .u8 (c 3)] := by simpa using hasBlk_new ((w.alloc (.cells #[.int .i64 W, .int .i64 H, .slice ac nc kc, .slice ad nd kd, .slice ai ni ki, .slice a4 nt kt] 29)).alloc (.cells #[.int .i64 d, .int .i64 i, .int .i64 t, .int .i64 p9, .int .i64 u, .int .i64 v] 25)) 23 #[.int .u8 (c 0), .int .u8 (c 1), .int .u8 (c 2), .int .u8 (c 3)]
  replace s_P := s_P.alloc (.cells #[.int .i64 0, .int .i64 0, .slice none 0 0, .slice none 0 0, .slice none 0 0, .slice none 0 0] 29)
  replace s_G := s_G.alloc (.cells #[.int .i64 0, .int .i64 0, .slice none 0 0, .slice none 0 0, .slice none 0 0, .slice none 0 0] 29)
  replace s_K := s_K.alloc (.cells #[.int .i64 0, .int .i64 0, .slice none 0 0, .slice none 0 0, .slice none 0 0, .slice none 0 0] 29)
  have s_R : HasBlk ((((w.alloc (.cells #[.int .i64 W, .int .i64 H, .slice ac nc kc, .slice ad nd kd, .slice ai ni ki, .slice a4 nt kt] 29)).alloc (.cells #[.int .i64 d, .int .i64 i, .int .i64 t, .int .i64 p9, .int .i64 u, .int .i64 v] 25)).alloc (.cells #[.int .u8 (c 0), .int .u8 (c 1), .int .u8 (c 2), .int .u8 (c 3)] 23)).alloc (.cells #[.int .i64 0, .int .i64 0, .slice none 0 0, .slice none 0 0, .slice none 0 0, .slice none 0 0] 29)) (w.heap.size + 1 + 1 + 1) 29 #[.int .i64 0, .int .i64 0, .slice none 0 0, .slice none 0 0, .slice none 0 0, .slice none 0 0] := by simpa using hasBlk_new (((w.alloc (.cells #[.int .i64 W, .int .i64 H, .slice ac nc kc, .slice ad nd kd, .slice ai ni ki, .slice a4 nt kt] 29)).alloc (.cells #[.int .i64 d, .int .i64 i, .int .i64 t, .int .i64 p9, .int .i64 u, .int .i64 v] 25)).alloc (.cells #[.int .u8 (c 0), .int .u8 (c 1), .int .u8 (c 2), .int .u8 (c 3)] 23)) 29 #[.int .i64 0, .int .i64 0, .slice none 0 0, .slice none 0 0, .slice none 0 0, .slice none 0 0]
  have t_P : HasBlk ((((w.alloc (.cells #[.int .i64 W, .int .i64 H, .slice ac nc kc, .slice ad nd kd, .slice ai ni ki, .slice a4 nt kt] 29)).alloc (.cells #[.int .i64 d, .int .i64 i, .int .i64 t, .int .i64 p9, .int .i64 u, .int .i64 v] 25)).alloc (.cells #[.int .u8 (c 0), .int .u8 (c 1), .int .u8 (c 2), .int .u8 (c 3)] 23)).alloc (.cells #[.int .i64 0, .int .i64 0, .slice none 0 0, .slice none 0 0, .slice none 0 0, .slice none 0 0] 29)) (w.heap.size) 29 #[.int .i64 W, .int .i64 H, .slice ac nc kc, .slice ad nd kd, .slice ai ni ki, .slice a4 nt kt] := by simpa using s_P
  clear s_P
  have t_G : HasBlk ((((w.alloc (.cells #[.int .i64 W, .int .i64 H, .slice ac nc kc, .slice ad nd kd, .slice ai ni ki, .slice a4 nt kt] 29)).alloc (.cells #[.int .i64 d, .int .i64 i, .int .i64 t, .int .i64 p9, .int .i64 u, .int .i64 v] 25)).alloc (.cells #[.int .u8 (c 0), .int .u8 (c 1), .int .u8 (c 2), .int .u8 (c 3)] 23)).alloc (.cells #[.int .i64 0, .int .i64 0, .slice none 0 0, .slice none 0 0, .slice none 0 0, .slice none 0 0] 29)) (w.heap.size + 1) 25 #[.int .i64 d, .int .i64 i, .int .i64 t, .int .i64 p9, .int .i64 u, .int .i64 v] := by simpa using s_G
  clear s_G
  have t_K : HasBlk ((((w.alloc (.cells #[.int .i64 W, .int .i64 H, .slice ac nc kc, .slice ad nd kd, .slice ai ni ki, .slice a4 nt kt] 29)).alloc (.cells #[.int .i64 d, .int .i64 i, .int .i64 t, .int .i64 p9, .int .i64 u, .int .i64 v] 25)).alloc (.cells #[.int .u8 (c 0), .int .u8 (c 1), .int .u8 (c 2), .int .u8 (c 3)] 23)).alloc (.cells #[.int .i64 0, .int .i64 0, .slice none 0 0, .slice none 0 0, .slice none 0 0, .slice none 0 0] 29)) (w.heap.size + 1 + 1) 23 #[.int .u8 (c 0), .int .u8 (c 1), .int .u8 (c 2), .int .u8 (c 3)] := by simpa using s_K
  clear s_K
  have t_R : HasBlk ((((w.alloc (.cells #[.int .i64 W, .int .i64 H, .slice ac nc kc, .slice ad nd kd, .slice ai ni ki, .slice a4 nt kt] 29)).alloc (.cells #[.int .i64 d, .int .i64 i, .int .i64 t, .int .i64 p9, .int .i64 u, .int .i64 v] 25)).alloc (.cells #[.int .u8 (c 0), .int .u8 (c 1), .int .u8 (c 2), .int .u8 (c 3)] 23)).alloc (.cells #[.int .i64 0, .int .i64 0, .slice none 0 0, .slice none 0 0, .slice none 0 0, .slice none 0 0] 29)) (w.heap.size + 1 + 1 + 1) 29 #[.int .i64 0, .int .i64 0, .slice none 0 0, .slice none 0 0, .slice none 0 0, .slice none 0 0] := by simpa using s_R
  clear s_R
  have SB1 : Below w.heap.size w ((((w.alloc (.cells #[.int .i64 W, .int .i64 H, .slice ac nc kc, .slice ad nd kd, .slice ai ni ki, .slice a4 nt kt] 29)).alloc (.cells #[.int .i64 d, .int .i64 i, .int .i64 t, .int .i64 p9, .int .i64 u, .int .i64 v] 25)).alloc (.cells #[.int .u8 (c 0), .int .u8 (c 1), .int .u8 (c 2), .int .u8 (c 3)] 23)).alloc (.cells #[.int .i64 0, .int .i64 0, .slice none 0 0, .slice none 0 0, .slice none 0 0, .slice none 0 0] 29)) := by
    repeat' (first | exact Below.refl _ _ | assumption | apply Below.drew | refine Below.setCell ?_ (by first | omega | (simp; done) | (simp; omega)) _ | refine Below.alloc ?_ (by first | omega | (simp; done) | (simp; omega)) _)
  generalize gW_v0 : ((((w.alloc (.cells #[.int .i64 W, .int .i64 H, .slice ac nc kc, .slice ad nd kd, .slice ai ni ki, .slice a4 nt kt] 29)).alloc (.cells #[.int .i64 d, .int .i64 i, .int .i64 t, .int .i64 p9, .int .i64 u, .int .i64 v] 25)).alloc (.cells #[.int .u8 (c 0), .int .u8 (c 1), .int .u8 (c 2), .int .u8 (c 3)] 23)).alloc (.cells #[.int .i64 0, .int .i64 0, .slice none 0 0, .slice none 0 0, .slice none 0 0, .slice none 0 0] 29)) = v0 at *
  clear gW_v0
  have P := Lib.hid t_P
  clear t_P
  have G := Lib.hid t_G
  clear t_G
  have K := Lib.hid t_K
  clear t_K
  have R := Lib.hid t_R
  clear t_R
  have SB1h := Lib.hid SB1
  clear SB1
  have SB1h9 : w.heap.size ≤ v0.heap.size := SB1h.out.size
  have ltG0 := G.out.lt
  have ltR0 := R.out.lt
  refine (htw.out _ SB1h.out).mono ?_
  rintro e w1 ⟨hx, bel1⟩
  clear htw
  have t_P := P.out.below bel1
  clear P
  have P := Lib.hid t_P
  clear t_P
  have t_G := G.out.below bel1
  clear G
  have G := Lib.hid t_G
  clear t_G
  have t_K := K.out.below bel1
  clear K
  have K := Lib.hid t_K
  clear t_K
  have t_R := R.out.below bel1
  clear R
  have R := Lib.hid t_R
  clear t_R
  have SB2 : Below w.heap.size w w1 := SB1h.out.trans (bel1.mono SB1h.out.size)
  clear SB1h
  have SB2h := Lib.hid SB2
  clear SB2 bel1
  have lt_P := P.out.lt
  have P_0 := P.out.cell 0
  have P_1 := P.out.cell 1
  have P_2 := P.out.cell 2
  have P_3 := P.out.cell 3
  have P_4 := P.out.cell 4
  have P_5 := P.out.cell 5
  have P_f0 := P.out.frozen 0
  have P_f1 := P.out.frozen 1
  have P_f2 := P.out.frozen 2
  have P_f3 := P.out.frozen 3
  have P_f4 := P.out.frozen 4
  have P_f5 := P.out.frozen 5
  simp at P_0 P_1 P_2 P_3 P_4 P_5
  have lt_G := G.out.lt
  have G_0 := G.out.cell 0
  have G_1 := G.out.cell 1
  have G_2 := G.out.cell 2
  have G_3 := G.out.cell 3
  have G_4 := G.out.cell 4
  have G_5 := G.out.cell 5
  have G_f0 := G.out.frozen 0
  have G_f1 := G.out.frozen 1
  have G_f2 := G.out.frozen 2
  have G_f3 := G.out.frozen 3
  have G_f4 := G.out.frozen 4
  have G_f5 := G.out.frozen 5
  simp at G_0 G_1 G_2 G_3 G_4 G_5
  have lt_K := K.out.lt
  have K_0 := K.out.cell 0
  have K_1 := K.out.cell 1
  have K_2 := K.out.cell 2
  have K_3 := K.out.cell 3
  have K_f0 := K.out.frozen 0
  have K_f1 := K.out.frozen 1
  have K_f2 := K.out.frozen 2
  have K_f3 := K.out.frozen 3
  simp at K_0 K_1 K_2 K_3
  have lt_R := R.out.lt
  have R_0 := R.out.cell 0
  have R_1 := R.out.cell 1
  have R_2 := R.out.cell 2
  have R_3 := R.out.cell 3
  have R_4 := R.out.cell 4
  have R_5 := R.out.cell 5
  have R_f0 := R.out.frozen 0
  have R_f1 := R.out.frozen 1
  have R_f2 := R.out.frozen 2
  have R_f3 := R.out.frozen 3
  have R_f4 := R.out.frozen 4
  have R_f5 := R.out.frozen 5
  simp at R_0 R_1 R_2 R_3 R_4 R_5
  have szB_w1 := SB2h.out.size
  rcases hx with ⟨hm, rfl⟩ | ⟨hm, hi, rfl⟩ | ⟨hm, hi, ⟨qc, qd, qi, qt, jc, jd, ji, jt⟩, k, hk, ⟨hk1, hk2, hk3, hk4⟩, rfl, ho⟩
  · have Hm := Lib.hid hm
    clear hm
    go_wp2
    refine bodyPost_ret (v := .tuple #[.agg #[.int .i64 0, .int .i64 0, .slice none 0 0, .slice none 0 0, .slice none 0 0, .slice none 0 0], .int .i64 8]) (by simp [results, Try.results20, go_sem, *]) rfl ⟨FRO.zero (.inl ⟨Hm.out, rfl, rfl⟩), ?_⟩
    exact Below.alloc (Below.setCell (p := ⟨w.heap.size + 1 + 1 + 1, 5, none⟩) (Below.setCell (p := ⟨w.heap.size + 1 + 1 + 1, 4, none⟩) (Below.setCell (p := ⟨w.heap.size + 1 + 1 + 1, 3, none⟩) (Below.setCell (p := ⟨w.heap.size + 1 + 1 + 1, 2, none⟩) (Below.setCell (p := ⟨w.heap.size + 1 + 1 + 1, 1, none⟩) (Below.setCell (p := ⟨w.heap.size + 1 + 1 + 1, 0, none⟩) SB2h.out (by show w.heap.size ≤ w.heap.size + 1 + 1 + 1; omega) _) (by show w.heap.size ≤ w.heap.size + 1 + 1 + 1; omega) _) (by show w.heap.size ≤ w.heap.size + 1 + 1 + 1; omega) _) (by show w.heap.size ≤ w.heap.size + 1 + 1 + 1; omega) _) (by show w.heap.size ≤ w.heap.size + 1 + 1 + 1; omega) _) (by show w.heap.size ≤ w.heap.size + 1 + 1 + 1; omega) _) (by simpa using SB2h.out.size) _
  · have Hm := Lib.hid (And.intro hm hi)
    clear hm hi
    go_wp2
    refine bodyPost_ret (v := .tuple #[.agg #[.int .i64 0, .int .i64 0, .slice none 0 0, .slice none 0 0, .slice none 0 0, .slice none 0 0], .int .i64 2]) (by simp [results, Try.results20, go_sem, *]) rfl ⟨FRO.zero (.inr (.inl ⟨Hm.out.1, fun z => Hm.out.2 z.1, rfl, rfl⟩)), ?_⟩
    exact Below.alloc (Below.setCell (p := ⟨w.heap.size + 1 + 1 + 1, 5, none⟩) (Below.setCell (p := ⟨w.heap.size + 1 + 1 + 1, 4, none⟩) (Below.setCell (p := ⟨w.heap.size + 1 + 1 + 1, 3, none⟩) (Below.setCell (p := ⟨w.heap.size + 1 + 1 + 1, 2, none⟩) (Below.setCell (p := ⟨w.heap.size + 1 + 1 + 1, 1, none⟩) (Below.setCell (p := ⟨w.heap.size + 1 + 1 + 1, 0, none⟩) SB2h.out (by show w.heap.size ≤ w.heap.size + 1 + 1 + 1; omega) _) (by show w.heap.size ≤ w.heap.size + 1 + 1 + 1; omega) _) (by show w.heap.size ≤ w.heap.size + 1 + 1 + 1; omega) _) (by show w.heap.size ≤ w.heap.size + 1 + 1 + 1; omega) _) (by show w.heap.size ≤ w.heap.size + 1 + 1 + 1; omega) _) (by show w.heap.size ≤ w.heap.size + 1 + 1 + 1; omega) _) (by simpa using SB2h.out.size) _
  obtain ⟨xc, xd, xi, xt, ⟨eqc, eqd, eqi, eqt⟩, hge, hlt0, hne, _⟩ := FOwn.store ho hk1 hk2 hk3 hk4
  dsimp only at eqc eqd eqi eqt hk hk1 hk2 hk3 hk4 hge hne
  subst eqc eqd eqi eqt
  have HO := Lib.hid ho
  have Hm := Lib.hid (And.intro hm hi)
  have Hk := Lib.hid (And.intro hk (And.intro hk1 (And.intro hk2 (And.intro hk3 hk4))))
  have Hge := Lib.hid hge
  have Hlt0 := Lib.hid hlt0
  clear hlt0
  have Hne := Lib.hid hne
  have hkb : k < nc := hk1
  clear ho hm hi hk hge hne
  dsimp only
  go_wp2_with fail
  have HOa := HO.out.below ((Below.refl w1.heap.size w1).alloc (Nat.le_refl _) (.cells #[.int .i64 W, .int .i64 H, .slice (some ⟨xc, 0, none⟩) nc jc, .slice (some ⟨xd, 0, none⟩) nd jd, .slice (some ⟨xi, 0, none⟩) ni ji, .slice (some ⟨xt, 0, none⟩) nt jt] 90))
  clear HO
  have NE_P_O := Lib.hid (show w.heap.size ≠ w1.heap.size by omega)
  have NE_G_O := Lib.hid (show w.heap.size + 1 ≠ w1.heap.size by omega)
  have NE_K_O := Lib.hid (show w.heap.size + 1 + 1 ≠ w1.heap.size by omega)
  have NE_R_O := Lib.hid (show w.heap.size + 1 + 1 + 1 ≠ w1.heap.size by omega)
  have s_P := P.out
  have s_G := G.out
  have s_K := K.out
  have s_R := R.out
  replace s_P := s_P.alloc (.cells #[.int .i64 W, .int .i64 H, .slice (some ⟨xc, 0, none⟩) nc jc, .slice (some ⟨xd, 0, none⟩) nd jd, .slice (some ⟨xi, 0, none⟩) ni ji, .slice (some ⟨xt, 0, none⟩) nt jt] 90)
  replace s_G := s_G.alloc (.cells #[.int .i64 W, .int .i64 H, .slice (some ⟨xc, 0, none⟩) nc jc, .slice (some ⟨xd, 0, none⟩) nd jd, .slice (some ⟨xi, 0, none⟩) ni ji, .slice (some ⟨xt, 0, none⟩) nt jt] 90)
  replace s_K := s_K.alloc (.cells #[.int .i64 W, .int .i64 H, .slice (some ⟨xc, 0, none⟩) nc jc, .slice (some ⟨xd, 0, none⟩) nd jd, .slice (some ⟨xi, 0, none⟩) ni ji, .slice (some ⟨xt, 0, none⟩) nt jt] 90)
  replace s_R := s_R.alloc (.cells #[.int .i64 W, .int .i64 H, .slice (some ⟨xc, 0, none⟩) nc jc, .slice (some ⟨xd, 0, none⟩) nd jd, .slice (some ⟨xi, 0, none⟩) ni ji, .slice (some ⟨xt, 0, none⟩) nt jt] 90)
  have s_O : HasBlk (w1.alloc (.cells #[.int .i64 W, .int .i64 H, .slice (some ⟨xc, 0, none⟩) nc jc, .slice (some ⟨xd, 0, none⟩) nd jd, .slice (some ⟨xi, 0, none⟩) ni ji, .slice (some ⟨xt, 0, none⟩) nt jt] 90)) (w1.heap.size) 90 #[.int .i64 W, .int .i64 H, .slice (some ⟨xc, 0, none⟩) nc jc, .slice (some ⟨xd, 0, none⟩) nd jd, .slice (some ⟨xi, 0, none⟩) ni ji, .slice (some ⟨xt, 0, none⟩) nt jt] := by simpa using hasBlk_new w1 90 #[.int .i64 W, .int .i64 H, .slice (some ⟨xc, 0, none⟩) nc jc, .slice (some ⟨xd, 0, none⟩) nd jd, .slice (some ⟨xi, 0, none⟩) ni ji, .slice (some ⟨xt, 0, none⟩) nt jt]
  have t_P : HasBlk (w1.alloc (.cells #[.int .i64 W, .int .i64 H, .slice (some ⟨xc, 0, none⟩) nc jc, .slice (some ⟨xd, 0, none⟩) nd jd, .slice (some ⟨xi, 0, none⟩) ni ji, .slice (some ⟨xt, 0, none⟩) nt jt] 90)) (w.heap.size) 29 #[.int .i64 W, .int .i64 H, .slice ac nc kc, .slice ad nd kd, .slice ai ni ki, .slice a4 nt kt] := by simpa using s_P
  clear s_P P
  have t_G : HasBlk (w1.alloc (.cells #[.int .i64 W, .int .i64 H, .slice (some ⟨xc, 0, none⟩) nc jc, .slice (some ⟨xd, 0, none⟩) nd jd, .slice (some ⟨xi, 0, none⟩) ni ji, .slice (some ⟨xt, 0, none⟩) nt jt] 90)) (w.heap.size + 1) 25 #[.int .i64 d, .int .i64 i, .int .i64 t, .int .i64 p9, .int .i64 u, .int .i64 v] := by simpa using s_G
  clear s_G G
  have t_K : HasBlk (w1.alloc (.cells #[.int .i64 W, .int .i64 H, .slice (some ⟨xc, 0, none⟩) nc jc, .slice (some ⟨xd, 0, none⟩) nd jd, .slice (some ⟨xi, 0, none⟩) ni ji, .slice (some ⟨xt, 0, none⟩) nt jt] 90)) (w.heap.size + 1 + 1) 23 #[.int .u8 (c 0), .int .u8 (c 1), .int .u8 (c 2), .int .u8 (c 3)] := by simpa using s_K
  clear s_K K
  have t_R : HasBlk (w1.alloc (.cells #[.int .i64 W, .int .i64 H, .slice (some ⟨xc, 0, none⟩) nc jc, .slice (some ⟨xd, 0, none⟩) nd jd, .slice (some ⟨xi, 0, none⟩) ni ji, .slice (some ⟨xt, 0, none⟩) nt jt] 90)) (w.heap.size + 1 + 1 + 1) 29 #[.int .i64 0, .int .i64 0, .slice none 0 0, .slice none 0 0, .slice none 0 0, .slice none 0 0] := by simpa using s_R
  clear s_R R
  have t_O : HasBlk (w1.alloc (.cells #[.int .i64 W, .int .i64 H, .slice (some ⟨xc, 0, none⟩) nc jc, .slice (some ⟨xd, 0, none⟩) nd jd, .slice (some ⟨xi, 0, none⟩) ni ji, .slice (some ⟨xt, 0, none⟩) nt jt] 90)) (w1.heap.size) 90 #[.int .i64 W, .int .i64 H, .slice (some ⟨xc, 0, none⟩) nc jc, .slice (some ⟨xd, 0, none⟩) nd jd, .slice (some ⟨xi, 0, none⟩) ni ji, .slice (some ⟨xt, 0, none⟩) nt jt] := by simpa using s_O
  clear s_O
  have SB3 : Below w.heap.size w (w1.alloc (.cells #[.int .i64 W, .int .i64 H, .slice (some ⟨xc, 0, none⟩) nc jc, .slice (some ⟨xd, 0, none⟩) nd jd, .slice (some ⟨xi, 0, none⟩) ni ji, .slice (some ⟨xt, 0, none⟩) nt jt] 90)) := by
    have bel0 := SB2h.out
    repeat' (first | exact Below.refl _ _ | assumption | apply Below.drew | refine Below.setCell ?_ (by first | omega | (simp; done) | (simp; omega)) _ | refine Below.alloc ?_ (by first | omega | (simp; done) | (simp; omega)) _)
  clear lt_P P_0 P_1 P_2 P_3 P_4 P_5 P_f0 P_f1 P_f2 P_f3 P_f4 P_f5 lt_G G_0 G_1 G_2 G_3 G_4 G_5 G_f0 G_f1 G_f2 G_f3 G_f4 G_f5 lt_K K_0 K_1 K_2 K_3 K_f0 K_f1 K_f2 K_f3 lt_R R_0 R_1 R_2 R_3 R_4 R_5 R_f0 R_f1 R_f2 R_f3 R_f4 R_f5
  generalize gW_v1 : (w1.alloc (.cells #[.int .i64 W, .int .i64 H, .slice (some ⟨xc, 0, none⟩) nc jc, .slice (some ⟨xd, 0, none⟩) nd jd, .slice (some ⟨xi, 0, none⟩) ni ji, .slice (some ⟨xt, 0, none⟩) nt jt] 90)) = v1 at *
  clear gW_v1
  have P := Lib.hid t_P
  clear t_P
  have G := Lib.hid t_G
  clear t_G
  have K := Lib.hid t_K
  clear t_K
  have R := Lib.hid t_R
  clear t_R
  have O := Lib.hid t_O
  clear t_O
  clear SB2h
  have SB3h := Lib.hid SB3
  clear SB3
  have HO := Lib.hid HOa
  clear HOa
  have lt_P := P.out.lt
  have P_0 := P.out.cell 0
  have P_1 := P.out.cell 1
  have P_2 := P.out.cell 2
  have P_3 := P.out.cell 3
  have P_4 := P.out.cell 4
  have P_5 := P.out.cell 5
  have P_f0 := P.out.frozen 0
  have P_f1 := P.out.frozen 1
  have P_f2 := P.out.frozen 2
  have P_f3 := P.out.frozen 3
  have P_f4 := P.out.frozen 4
  have P_f5 := P.out.frozen 5
  simp at P_0 P_1 P_2 P_3 P_4 P_5
  have lt_G := G.out.lt
  have G_0 := G.out.cell 0
  have G_1 := G.out.cell 1
  have G_2 := G.out.cell 2
  have G_3 := G.out.cell 3
  have G_4 := G.out.cell 4
  have G_5 := G.out.cell 5
  have G_f0 := G.out.frozen 0
  have G_f1 := G.out.frozen 1
  have G_f2 := G.out.frozen 2
  have G_f3 := G.out.frozen 3
  have G_f4 := G.out.frozen 4
  have G_f5 := G.out.frozen 5
  simp at G_0 G_1 G_2 G_3 G_4 G_5
  have lt_K := K.out.lt
  have K_0 := K.out.cell 0
  have K_1 := K.out.cell 1
  have K_2 := K.out.cell 2
  have K_3 := K.out.cell 3
  have K_f0 := K.out.frozen 0
  have K_f1 := K.out.frozen 1
  have K_f2 := K.out.frozen 2
  have K_f3 := K.out.frozen 3
  simp at K_0 K_1 K_2 K_3
  have lt_R := R.out.lt
  have R_0 := R.out.cell 0
  have R_1 := R.out.cell 1
  have R_2 := R.out.cell 2
  have R_3 := R.out.cell 3
  have R_4 := R.out.cell 4
  have R_5 := R.out.cell 5
  have R_f0 := R.out.frozen 0
  have R_f1 := R.out.frozen 1
  have R_f2 := R.out.frozen 2
  have R_f3 := R.out.frozen 3
  have R_f4 := R.out.frozen 4
  have R_f5 := R.out.frozen 5
  simp at R_0 R_1 R_2 R_3 R_4 R_5
  have lt_O := O.out.lt
  have O_0 := O.out.cell 0
  have O_1 := O.out.cell 1
  have O_2 := O.out.cell 2
  have O_3 := O.out.cell 3
  have O_4 := O.out.cell 4
  have O_5 := O.out.cell 5
  have O_f0 := O.out.frozen 0
  have O_f1 := O.out.frozen 1
  have O_f2 := O.out.frozen 2
  have O_f3 := O.out.frozen 3
  have O_f4 := O.out.frozen 4
  have O_f5 := O.out.frozen 5
  simp at O_0 O_1 O_2 O_3 O_4 O_5
  have szB_v1 := SB3h.out.size
  have hsb := somebody_any d i t v1
  by_cases hs : SomeP d i t
  rotate_left
  · rw [decide_eq_false hs] at hsb
    have Hs := Lib.hid hs
    clear hs
    refine hsb.mono ?_
    rintro e w2 ⟨rfl, hw⟩
    obtain rfl := hw.symm
    clear hsb
    go_wp2
    refine bodyPost_ret (v := .tuple #[.agg #[.int .i64 0, .int .i64 0, .slice none 0 0, .slice none 0 0, .slice none 0 0, .slice none 0 0], .int .i64 2]) (by simp [results, Try.results20, go_sem, *]) rfl ⟨FRO.zero (.inr (.inl ⟨Hm.out.1, fun z => Hs.out z.2, rfl, rfl⟩)), ?_⟩
    exact (Below.setCell (p := ⟨w.heap.size + 1 + 1 + 1, 5, none⟩) (Below.setCell (p := ⟨w.heap.size + 1 + 1 + 1, 4, none⟩) (Below.setCell (p := ⟨w.heap.size + 1 + 1 + 1, 3, none⟩) (Below.setCell (p := ⟨w.heap.size + 1 + 1 + 1, 2, none⟩) (Below.setCell (p := ⟨w.heap.size + 1 + 1 + 1, 1, none⟩) (Below.setCell (p := ⟨w.heap.size + 1 + 1 + 1, 0, none⟩) SB3h.out (by show w.heap.size ≤ w.heap.size + 1 + 1 + 1; omega) _) (by show w.heap.size ≤ w.heap.size + 1 + 1 + 1; omega) _) (by show w.heap.size ≤ w.heap.size + 1 + 1 + 1; omega) _) (by show w.heap.size ≤ w.heap.size + 1 + 1 + 1; omega) _) (by show w.heap.size ≤ w.heap.size + 1 + 1 + 1; omega) _) (by show w.heap.size ≤ w.heap.size + 1 + 1 + 1; omega) _)
  rw [decide_eq_true hs] at hsb
  have Hs := Lib.hid hs
  clear hs
  refine hsb.mono ?_
  rintro e w2 ⟨rfl, hw⟩
  obtain rfl := hw.symm
  clear hsb
  go_wp2_with fail
  have HOa := HO.out.far (j := 3) ltG0 (.int .i64 0)
  clear HO
  have s_P := P.out
  have s_G := G.out
  have s_K := K.out
  have s_R := R.out
  have s_O := O.out
  replace s_G := s_G.set 3 (.int .i64 0)
  replace s_P := s_P.far (p := ⟨w.heap.size + 1, 3, none⟩) (by first | (simp; done) | (simp; omega) | exact NE_P_G.out | exact Ne.symm NE_P_G.out | omega) (.int .i64 0)
  replace s_K := s_K.far (p := ⟨w.heap.size + 1, 3, none⟩) (by first | (simp; done) | (simp; omega) | exact NE_G_K.out | exact Ne.symm NE_G_K.out | omega) (.int .i64 0)
  replace s_R := s_R.far (p := ⟨w.heap.size + 1, 3, none⟩) (by first | (simp; done) | (simp; omega) | exact NE_G_R.out | exact Ne.symm NE_G_R.out | omega) (.int .i64 0)
  replace s_O := s_O.far (p := ⟨w.heap.size + 1, 3, none⟩) (by first | (simp; done) | (simp; omega) | exact NE_G_O.out | exact Ne.symm NE_G_O.out | omega) (.int .i64 0)
  have t_P : HasBlk (v1.setCell ⟨w.heap.size + 1, 3, none⟩ (.int .i64 0)) (w.heap.size) 29 #[.int .i64 W, .int .i64 H, .slice ac nc kc, .slice ad nd kd, .slice ai ni ki, .slice a4 nt kt] := by simpa using s_P
  clear s_P P
  have t_G : HasBlk (v1.setCell ⟨w.heap.size + 1, 3, none⟩ (.int .i64 0)) (w.heap.size + 1) 25 #[.int .i64 d, .int .i64 i, .int .i64 t, .int .i64 0, .int .i64 u, .int .i64 v] := by simpa using s_G
  clear s_G G
  have t_K : HasBlk (v1.setCell ⟨w.heap.size + 1, 3, none⟩ (.int .i64 0)) (w.heap.size + 1 + 1) 23 #[.int .u8 (c 0), .int .u8 (c 1), .int .u8 (c 2), .int .u8 (c 3)] := by simpa using s_K
  clear s_K K
  have t_R : HasBlk (v1.setCell ⟨w.heap.size + 1, 3, none⟩ (.int .i64 0)) (w.heap.size + 1 + 1 + 1) 29 #[.int .i64 0, .int .i64 0, .slice none 0 0, .slice none 0 0, .slice none 0 0, .slice none 0 0] := by simpa using s_R
  clear s_R R
  have t_O : HasBlk (v1.setCell ⟨w.heap.size + 1, 3, none⟩ (.int .i64 0)) (w1.heap.size) 90 #[.int .i64 W, .int .i64 H, .slice (some ⟨xc, 0, none⟩) nc jc, .slice (some ⟨xd, 0, none⟩) nd jd, .slice (some ⟨xi, 0, none⟩) ni ji, .slice (some ⟨xt, 0, none⟩) nt jt] := by simpa using s_O
  clear s_O O
  have SB4 : Below w.heap.size w (v1.setCell ⟨w.heap.size + 1, 3, none⟩ (.int .i64 0)) := by
    have bel0 := SB3h.out
    repeat' (first | exact Below.refl _ _ | assumption | apply Below.drew | refine Below.setCell ?_ (by first | omega | (simp; done) | (simp; omega)) _ | refine Below.alloc ?_ (by first | omega | (simp; done) | (simp; omega)) _)
  clear lt_P P_0 P_1 P_2 P_3 P_4 P_5 P_f0 P_f1 P_f2 P_f3 P_f4 P_f5 lt_G G_0 G_1 G_2 G_3 G_4 G_5 G_f0 G_f1 G_f2 G_f3 G_f4 G_f5 lt_K K_0 K_1 K_2 K_3 K_f0 K_f1 K_f2 K_f3 lt_R R_0 R_1 R_2 R_3 R_4 R_5 R_f0 R_f1 R_f2 R_f3 R_f4 R_f5 lt_O O_0 O_1 O_2 O_3 O_4 O_5 O_f0 O_f1 O_f2 O_f3 O_f4 O_f5
  generalize gW_v2 : (v1.setCell ⟨w.heap.size + 1, 3, none⟩ (.int .i64 0)) = v2 at *
  clear gW_v2
  have P := Lib.hid t_P
  clear t_P
  have G := Lib.hid t_G
  clear t_G
  have K := Lib.hid t_K
  clear t_K
  have R := Lib.hid t_R
  clear t_R
  have O := Lib.hid t_O
  clear t_O
  clear SB3h
  have SB4h := Lib.hid SB4
  clear SB4
  have HO := Lib.hid HOa
  clear HOa
  have lt_P := P.out.lt
  have P_0 := P.out.cell 0
  have P_1 := P.out.cell 1
  have P_2 := P.out.cell 2
  have P_3 := P.out.cell 3
  have P_4 := P.out.cell 4
  have P_5 := P.out.cell 5
  have P_f0 := P.out.frozen 0
  have P_f1 := P.out.frozen 1
  have P_f2 := P.out.frozen 2
  have P_f3 := P.out.frozen 3
  have P_f4 := P.out.frozen 4
  have P_f5 := P.out.frozen 5
  simp at P_0 P_1 P_2 P_3 P_4 P_5
  have lt_G := G.out.lt
  have G_0 := G.out.cell 0
  have G_1 := G.out.cell 1
  have G_2 := G.out.cell 2
  have G_3 := G.out.cell 3
  have G_4 := G.out.cell 4
  have G_5 := G.out.cell 5
  have G_f0 := G.out.frozen 0
  have G_f1 := G.out.frozen 1
  have G_f2 := G.out.frozen 2
  have G_f3 := G.out.frozen 3
  have G_f4 := G.out.frozen 4
  have G_f5 := G.out.frozen 5
  simp at G_0 G_1 G_2 G_3 G_4 G_5
  have lt_K := K.out.lt
  have K_0 := K.out.cell 0
  have K_1 := K.out.cell 1
  have K_2 := K.out.cell 2
  have K_3 := K.out.cell 3
  have K_f0 := K.out.frozen 0
  have K_f1 := K.out.frozen 1
  have K_f2 := K.out.frozen 2
  have K_f3 := K.out.frozen 3
  simp at K_0 K_1 K_2 K_3
  have lt_R := R.out.lt
  have R_0 := R.out.cell 0
  have R_1 := R.out.cell 1
  have R_2 := R.out.cell 2
  have R_3 := R.out.cell 3
  have R_4 := R.out.cell 4
  have R_5 := R.out.cell 5
  have R_f0 := R.out.frozen 0
  have R_f1 := R.out.frozen 1
  have R_f2 := R.out.frozen 2
  have R_f3 := R.out.frozen 3
  have R_f4 := R.out.frozen 4
  have R_f5 := R.out.frozen 5
  simp at R_0 R_1 R_2 R_3 R_4 R_5
  have lt_O := O.out.lt
  have O_0 := O.out.cell 0
  have O_1 := O.out.cell 1
  have O_2 := O.out.cell 2
  have O_3 := O.out.cell 3
  have O_4 := O.out.cell 4
  have O_5 := O.out.cell 5
  have O_f0 := O.out.frozen 0
  have O_f1 := O.out.frozen 1
  have O_f2 := O.out.frozen 2
  have O_f3 := O.out.frozen 3
  have O_f4 := O.out.frozen 4
  have O_f5 := O.out.frozen 5
  simp at O_0 O_1 O_2 O_3 O_4 O_5
  have szB_v2 := SB4h.out.size
  obtain ⟨qk1, qk2, qk3, qk4⟩ := Hk.out.2
  obtain ⟨yc, yd, yi, yt, ⟨ea, eb, ec, ed⟩, _, ⟨lc, ld, li, lt⟩, _, hfz, ⟨cC, cD, cI, cT⟩, _, hset⟩ := FOwn.store HO.out qk1 qk2 qk3 qk4
  dsimp only at ea eb ec ed cC cD cI cT qk1 qk2 qk3 qk4
  cases ea
  cases eb
  cases ec
  cases ed
  have HF := Lib.hid hfz
  have HS := Lib.hid hset
  have HC := Lib.hid cC
  have hj0 : (0 : Int) ≤ (k : Int) := by omega
  have hj1 : (k : Int) < (nd : Int) := by omega
  have hj2 : (k : Int) < (ni : Int) := by omega
  have hj3 : (k : Int) < (nt : Int) := by omega
  have pD := fun b : BW v2 => BW.cell cD ld b
  have pI := fun b : BW v2 => BW.cell cI li b
  have pT := fun b : BW v2 => BW.cell cT lt b
  have k1 : ∀ b : BW v2, Calls Try.prog 56 #[.agg #[.int .i64 W, .int .i64 H, .slice (some ⟨xc, 0, none⟩) nc jc, .slice (some ⟨xd, 0, none⟩) nd jd, .slice (some ⟨xi, 0, none⟩) ni ji, .slice (some ⟨xt, 0, none⟩) nt jt], .int .i64 k] b.W fun e w'' => e = .returned (.bool (decide (I k < 0))) ∧ ∃ b' : BW v2, w'' = b'.W := fun b => BW.call (fun W' (h : Below v2.heap.size v2 W') => nobody_any ⟨some ⟨xc, 0, none⟩, some ⟨xd, 0, none⟩, some ⟨xi, 0, none⟩, some ⟨xt, 0, none⟩, jc, jd, ji, jt⟩ ⟨W, H, nc, nd, ni, nt, C, D, I, T⟩ k W' (HO.out.ok.2.2.1.below h) qk3) b
  have k2 : ∀ b : BW v2, Calls Try.prog 16 #[.agg #[.int .i64 d, .int .i64 i, .int .i64 t, .int .i64 0, .int .i64 u, .int .i64 v], .agg #[.int .i64 (D k), .int .i64 (I k), .int .i64 (T k), .int .i64 0, .int .i64 0, .int .i64 0]] b.W fun e w'' => e = .returned (.bool (decide (NearP d i t 0 (D k) (I k) (T k) 0))) ∧ ∃ b' : BW v2, w'' = b'.W := fun b => BW.call (fun W' (h : Below v2.heap.size v2 W') => nearer_any d i t 0 u v (D k) (I k) (T k) 0 0 0 W') b
  clear hfz hset cC cD cI cT
  have p_O_0 := fun b : BW v2 => BW.cell O_0 lt_O b
  have p_O_1 := fun b : BW v2 => BW.cell O_1 lt_O b
  have p_O_2 := fun b : BW v2 => BW.cell O_2 lt_O b
  have p_O_3 := fun b : BW v2 => BW.cell O_3 lt_O b
  have p_O_4 := fun b : BW v2 => BW.cell O_4 lt_O b
  have p_O_5 := fun b : BW v2 => BW.cell O_5 lt_O b
  have p_G_0 := fun b : BW v2 => BW.cell G_0 lt_G b
  have p_G_1 := fun b : BW v2 => BW.cell G_1 lt_G b
  have p_G_2 := fun b : BW v2 => BW.cell G_2 lt_G b
  have p_G_3 := fun b : BW v2 => BW.cell G_3 lt_G b
  have p_G_4 := fun b : BW v2 => BW.cell G_4 lt_G b
  have p_G_5 := fun b : BW v2 => BW.cell G_5 lt_G b
  clear lt_P P_0 P_1 P_2 P_3 P_4 P_5 P_f0 P_f1 P_f2 P_f3 P_f4 P_f5 lt_G G_0 G_1 G_2 G_3 G_4 G_5 G_f0 G_f1 G_f2 G_f3 G_f4 G_f5 lt_K K_0 K_1 K_2 K_3 K_f0 K_f1 K_f2 K_f3 lt_R R_0 R_1 R_2 R_3 R_4 R_5 R_f0 R_f1 R_f2 R_f3 R_f4 R_f5 lt_O O_0 O_1 O_2 O_3 O_4 O_5 O_f0 O_f1 O_f2 O_f3 O_f4 O_f5
  by_cases hI : I k < 0
  · rw [decide_eq_true hI] at k1
    have Ho := Lib.hid (show FD.Over ⟨W, H, nc, nd, ni, nt, C, D, I, T⟩ k d i t from .inl hI)
    clear hI
    skip
    have k1 := Lib.hid k1
    have k2 := Lib.hid k2
    refine wp_region_quiet_bw (by kernel_rfl) (by kernel_rfl) ?_
    repeat (go_big_quiet_step ((first | (go_at_call 56; with_reducible exact k1.out _) | (go_at_call 16; with_reducible exact k2.out _))))
    refine wpQuiet_nil ?_
    intro _ hw'
    obtain ⟨pq, hw''⟩ := hw'
    subst hw''
    have hpq := Lib.hid pq.h
    clear p_O_0 p_O_1 p_O_2 p_O_3 p_O_4 p_O_5 p_G_0 p_G_1 p_G_2 p_G_3 p_G_4 p_G_5 pD pI pT k1 k2
    generalize pq.W = w4 at *
    clear pq
    have O4 := Lib.hid (O.out.below hpq.out)
    have R4 := Lib.hid (R.out.below hpq.out)
    have K4 := Lib.hid (K.out.below hpq.out)
    have G4 := Lib.hid (G.out.below hpq.out)
    have HO4 := Lib.hid (HO.out.below hpq.out)
    have HB4 := Lib.hid (SB4h.out.trans (hpq.out.mono SB4h.out.size))
    have o_0 := O4.out.cell 0
    have o_f0 := R4.out.frozen 0
    have o_r0 := R4.out.cell 0
    have o_1 := O4.out.cell 1
    have o_f1 := R4.out.frozen 1
    have o_r1 := R4.out.cell 1
    have o_2 := O4.out.cell 2
    have o_f2 := R4.out.frozen 2
    have o_r2 := R4.out.cell 2
    have o_3 := O4.out.cell 3
    have o_f3 := R4.out.frozen 3
    have o_r3 := R4.out.cell 3
    have o_4 := O4.out.cell 4
    have o_f4 := R4.out.frozen 4
    have o_r4 := R4.out.cell 4
    have o_5 := O4.out.cell 5
    have o_f5 := R4.out.frozen 5
    have o_r5 := R4.out.cell 5
    simp at o_0 o_1 o_2 o_3 o_4 o_5 o_r0 o_r1 o_r2 o_r3 o_r4 o_r5
    have HOd := HO4.out.below ((Below.refl w4.heap.size w4).drew)
    obtain ⟨zc, zd, zi, zt, ⟨ea, eb, ec, ed⟩, _, ⟨mc, md, mi, mt⟩, ⟨n1, n2, n3, n4, n5, n6⟩, ⟨fc, fd, fi, ft⟩, ⟨cC, cD, cI, cT⟩, _, hset⟩ := FOwn.store HOd qk1 qk2 qk3 qk4
    dsimp only at ea eb ec ed cC cD cI cT
    cases ea
    cases eb
    cases ec
    cases ed
    have tc0 : CT w4.drew xc (k * 4) _ := ⟨cC 0 (by omega), fc (k * 4)⟩
    have tc1 : CT w4.drew xc (k * 4 + 1) _ := ⟨cC 1 (by omega), fc (k * 4 + 1)⟩
    have tc2 : CT w4.drew xc (k * 4 + 2) _ := ⟨cC 2 (by omega), fc (k * 4 + 2)⟩
    have tc3 : CT w4.drew xc (k * 4 + 3) _ := ⟨cC 3 (by omega), fc (k * 4 + 3)⟩
    have td : CT w4.drew xd k _ := ⟨cD, fd k⟩
    have ti : CT w4.drew xi k _ := ⟨cI, fi k⟩
    have tt : CT w4.drew xt k _ := ⟨cT, ft k⟩
    have k_0 := K4.out.cell 0
    have k_1 := K4.out.cell 1
    have k_2 := K4.out.cell 2
    have k_3 := K4.out.cell 3
    have g_0 := G4.out.cell 0
    have g_1 := G4.out.cell 1
    have g_2 := G4.out.cell 2
    simp at k_0 k_1 k_2 k_3 g_0 g_1 g_2
    have HS4 := Lib.hid (hset d i t c)
    have q0 : (fun Wo => Wo.cell? ⟨w1.heap.size, 2, none⟩ = some (.slice (some ⟨xc, 0, none⟩) nc jc) ∧ Wo.cell? ⟨w1.heap.size, 3, none⟩ = some (.slice (some ⟨xd, 0, none⟩) nd jd) ∧ Wo.cell? ⟨w1.heap.size, 4, none⟩ = some (.slice (some ⟨xi, 0, none⟩) ni ji) ∧ Wo.cell? ⟨w1.heap.size, 5, none⟩ = some (.slice (some ⟨xt, 0, none⟩) nt jt) ∧ Wo.cell? ⟨w.heap.size + 1 + 1, 0, none⟩ = some (.int .u8 (c 0)) ∧ Wo.cell? ⟨w.heap.size + 1 + 1, 1, none⟩ = some (.int .u8 (c 1)) ∧ Wo.cell? ⟨w.heap.size + 1 + 1, 2, none⟩ = some (.int .u8 (c 2)) ∧ Wo.cell? ⟨w.heap.size + 1 + 1, 3, none⟩ = some (.int .u8 (c 3)) ∧ Wo.cell? ⟨w.heap.size + 1, 0, none⟩ = some (.int .i64 d) ∧ Wo.cell? ⟨w.heap.size + 1, 1, none⟩ = some (.int .i64 i) ∧ Wo.cell? ⟨w.heap.size + 1, 2, none⟩ = some (.int .i64 t)) w4.drew := ⟨o_2, o_3, o_4, o_5, k_0, k_1, k_2, k_3, g_0, g_1, g_2⟩
    have zxco : xc ≠ w1.heap.size := by have := Hge.out; have := Hlt0.out; omega
    have zxck : xc ≠ w.heap.size + 1 + 1 := by have := Hge.out; have := Hlt0.out; omega
    have zxcg : xc ≠ w.heap.size + 1 := by have := Hge.out; have := Hlt0.out; omega
    have zxcr : xc ≠ w.heap.size + 1 + 1 + 1 := by have := Hge.out; have := Hlt0.out; omega
    have zxdo : xd ≠ w1.heap.size := by have := Hge.out; have := Hlt0.out; omega
    have zxdk : xd ≠ w.heap.size + 1 + 1 := by have := Hge.out; have := Hlt0.out; omega
    have zxdg : xd ≠ w.heap.size + 1 := by have := Hge.out; have := Hlt0.out; omega
    have zxdr : xd ≠ w.heap.size + 1 + 1 + 1 := by have := Hge.out; have := Hlt0.out; omega
    have zxio : xi ≠ w1.heap.size := by have := Hge.out; have := Hlt0.out; omega
    have zxik : xi ≠ w.heap.size + 1 + 1 := by have := Hge.out; have := Hlt0.out; omega
    have zxig : xi ≠ w.heap.size + 1 := by have := Hge.out; have := Hlt0.out; omega
    have zxir : xi ≠ w.heap.size + 1 + 1 + 1 := by have := Hge.out; have := Hlt0.out; omega
    have zxto : xt ≠ w1.heap.size := by have := Hge.out; have := Hlt0.out; omega
    have zxtk : xt ≠ w.heap.size + 1 + 1 := by have := Hge.out; have := Hlt0.out; omega
    have zxtg : xt ≠ w.heap.size + 1 := by have := Hge.out; have := Hlt0.out; omega
    have zxtr : xt ≠ w.heap.size + 1 + 1 + 1 := by have := Hge.out; have := Hlt0.out; omega

    have HZ := Lib.hid (And.intro zxco (And.intro zxdo (And.intro zxio (And.intro zxto (And.intro zxcr (And.intro zxdr (And.intro zxir zxtr)))))))
    clear HOd hset cC cD cI cT fc fd fi ft mc md mi mt k_0 k_1 k_2 k_3 g_0 g_1 g_2 o_0 o_1 o_2 o_3 o_4 o_5 o_f0 o_f1 o_f2 o_f3 o_f4 o_f5 o_r0 o_r1 o_r2 o_r3 o_r4 o_r5 zxcr zxdr zxir zxtr
    go_wp2_with fail
    go_region_held3 (fun Wo => Wo.cell? ⟨w1.heap.size, 2, none⟩ = some (.slice (some ⟨xc, 0, none⟩) nc jc) ∧ Wo.cell? ⟨w1.heap.size, 3, none⟩ = some (.slice (some ⟨xd, 0, none⟩) nd jd) ∧ Wo.cell? ⟨w1.heap.size, 4, none⟩ = some (.slice (some ⟨xi, 0, none⟩) ni ji) ∧ Wo.cell? ⟨w1.heap.size, 5, none⟩ = some (.slice (some ⟨xt, 0, none⟩) nt jt) ∧ Wo.cell? ⟨w.heap.size + 1 + 1, 0, none⟩ = some (.int .u8 (c 0)) ∧ Wo.cell? ⟨w.heap.size + 1 + 1, 1, none⟩ = some (.int .u8 (c 1)) ∧ Wo.cell? ⟨w.heap.size + 1 + 1, 2, none⟩ = some (.int .u8 (c 2)) ∧ Wo.cell? ⟨w.heap.size + 1 + 1, 3, none⟩ = some (.int .u8 (c 3)) ∧ Wo.cell? ⟨w.heap.size + 1, 0, none⟩ = some (.int .i64 d) ∧ Wo.cell? ⟨w.heap.size + 1, 1, none⟩ = some (.int .i64 i) ∧ Wo.cell? ⟨w.heap.size + 1, 2, none⟩ = some (.int .i64 t))
      (first | with_reducible exact qD | with_reducible exact qC | with_reducible exact qB | with_reducible exact qA | with_reducible exact q0 | fail "keep")
      (first | (have e := st4 (a := c 0) (b := c 1) (c := c 2) (d := c 3) tc0 tc1 tc2 tc3; simp [go_sem] at e; refine upon_store e ?_; clear e; have qA : (fun Wo => Wo.cell? ⟨w1.heap.size, 2, none⟩ = some (.slice (some ⟨xc, 0, none⟩) nc jc) ∧ Wo.cell? ⟨w1.heap.size, 3, none⟩ = some (.slice (some ⟨xd, 0, none⟩) nd jd) ∧ Wo.cell? ⟨w1.heap.size, 4, none⟩ = some (.slice (some ⟨xi, 0, none⟩) ni ji) ∧ Wo.cell? ⟨w1.heap.size, 5, none⟩ = some (.slice (some ⟨xt, 0, none⟩) nt jt) ∧ Wo.cell? ⟨w.heap.size + 1 + 1, 0, none⟩ = some (.int .u8 (c 0)) ∧ Wo.cell? ⟨w.heap.size + 1 + 1, 1, none⟩ = some (.int .u8 (c 1)) ∧ Wo.cell? ⟨w.heap.size + 1 + 1, 2, none⟩ = some (.int .u8 (c 2)) ∧ Wo.cell? ⟨w.heap.size + 1 + 1, 3, none⟩ = some (.int .u8 (c 3)) ∧ Wo.cell? ⟨w.heap.size + 1, 0, none⟩ = some (.int .i64 d) ∧ Wo.cell? ⟨w.heap.size + 1, 1, none⟩ = some (.int .i64 i) ∧ Wo.cell? ⟨w.heap.size + 1, 2, none⟩ = some (.int .i64 t)) ((((w4.drew.setCell ⟨xc, k * 4, none⟩ (.int .u8 (c 0))).setCell ⟨xc, k * 4 + 1, none⟩ (.int .u8 (c 1))).setCell ⟨xc, k * 4 + 2, none⟩ (.int .u8 (c 2))).setCell ⟨xc, k * 4 + 3, none⟩ (.int .u8 (c 3))) := ⟨(cell_far4 zxco _ _ _ _).trans (q0.1), (cell_far4 zxco _ _ _ _).trans (q0.2.1), (cell_far4 zxco _ _ _ _).trans (q0.2.2.1), (cell_far4 zxco _ _ _ _).trans (q0.2.2.2.1), (cell_far4 zxck _ _ _ _).trans (q0.2.2.2.2.1), (cell_far4 zxck _ _ _ _).trans (q0.2.2.2.2.2.1), (cell_far4 zxck _ _ _ _).trans (q0.2.2.2.2.2.2.1), (cell_far4 zxck _ _ _ _).trans (q0.2.2.2.2.2.2.2.1), (cell_far4 zxcg _ _ _ _).trans (q0.2.2.2.2.2.2.2.2.1), (cell_far4 zxcg _ _ _ _).trans (q0.2.2.2.2.2.2.2.2.2.1), (cell_far4 zxcg _ _ _ _).trans (q0.2.2.2.2.2.2.2.2.2.2)⟩; have dA : CT ((((w4.drew.setCell ⟨xc, k * 4, none⟩ (.int .u8 (c 0))).setCell ⟨xc, k * 4 + 1, none⟩ (.int .u8 (c 1))).setCell ⟨xc, k * 4 + 2, none⟩ (.int .u8 (c 2))).setCell ⟨xc, k * 4 + 3, none⟩ (.int .u8 (c 3))) xd k (.int .i64 (D k)) := td.far4 (a := k * 4) (b := k * 4 + 1) (c := k * 4 + 2) (d := k * 4 + 3) n1 (.int .u8 (c 0)) (.int .u8 (c 1)) (.int .u8 (c 2)) (.int .u8 (c 3)); have iA : CT ((((w4.drew.setCell ⟨xc, k * 4, none⟩ (.int .u8 (c 0))).setCell ⟨xc, k * 4 + 1, none⟩ (.int .u8 (c 1))).setCell ⟨xc, k * 4 + 2, none⟩ (.int .u8 (c 2))).setCell ⟨xc, k * 4 + 3, none⟩ (.int .u8 (c 3))) xi k (.int .i64 (I k)) := ti.far4 (a := k * 4) (b := k * 4 + 1) (c := k * 4 + 2) (d := k * 4 + 3) n2 (.int .u8 (c 0)) (.int .u8 (c 1)) (.int .u8 (c 2)) (.int .u8 (c 3)); have tA : CT ((((w4.drew.setCell ⟨xc, k * 4, none⟩ (.int .u8 (c 0))).setCell ⟨xc, k * 4 + 1, none⟩ (.int .u8 (c 1))).setCell ⟨xc, k * 4 + 2, none⟩ (.int .u8 (c 2))).setCell ⟨xc, k * 4 + 3, none⟩ (.int .u8 (c 3))) xt k (.int .i64 (T k)) := tt.far4 (a := k * 4) (b := k * 4 + 1) (c := k * 4 + 2) (d := k * 4 + 3) n3 (.int .u8 (c 0)) (.int .u8 (c 1)) (.int .u8 (c 2)) (.int .u8 (c 3)); clear tc0 tc1 tc2 tc3 td ti tt q0; rw [drew4] at qA dA iA tA; generalize hA : (((((w4.setCell ⟨xc, k * 4, none⟩ (.int .u8 (c 0))).setCell ⟨xc, k * 4 + 1, none⟩ (.int .u8 (c 1))).setCell ⟨xc, k * 4 + 2, none⟩ (.int .u8 (c 2))).setCell ⟨xc, k * 4 + 3, none⟩ (.int .u8 (c 3))).drew) = wA at qA dA iA tA ⊢; have HA := Lib.hid hA; clear hA)
             | (have e := st1 (d := d) dA; simp [go_sem] at e; refine upon_store e ?_; clear e; have qB : (fun Wo => Wo.cell? ⟨w1.heap.size, 2, none⟩ = some (.slice (some ⟨xc, 0, none⟩) nc jc) ∧ Wo.cell? ⟨w1.heap.size, 3, none⟩ = some (.slice (some ⟨xd, 0, none⟩) nd jd) ∧ Wo.cell? ⟨w1.heap.size, 4, none⟩ = some (.slice (some ⟨xi, 0, none⟩) ni ji) ∧ Wo.cell? ⟨w1.heap.size, 5, none⟩ = some (.slice (some ⟨xt, 0, none⟩) nt jt) ∧ Wo.cell? ⟨w.heap.size + 1 + 1, 0, none⟩ = some (.int .u8 (c 0)) ∧ Wo.cell? ⟨w.heap.size + 1 + 1, 1, none⟩ = some (.int .u8 (c 1)) ∧ Wo.cell? ⟨w.heap.size + 1 + 1, 2, none⟩ = some (.int .u8 (c 2)) ∧ Wo.cell? ⟨w.heap.size + 1 + 1, 3, none⟩ = some (.int .u8 (c 3)) ∧ Wo.cell? ⟨w.heap.size + 1, 0, none⟩ = some (.int .i64 d) ∧ Wo.cell? ⟨w.heap.size + 1, 1, none⟩ = some (.int .i64 i) ∧ Wo.cell? ⟨w.heap.size + 1, 2, none⟩ = some (.int .i64 t)) (wA.setCell ⟨xd, k, none⟩ (.int .i64 d)) := ⟨(World.cell?_setCell_far _ _ _ _ (by exact zxdo)).trans (qA.1), (World.cell?_setCell_far _ _ _ _ (by exact zxdo)).trans (qA.2.1), (World.cell?_setCell_far _ _ _ _ (by exact zxdo)).trans (qA.2.2.1), (World.cell?_setCell_far _ _ _ _ (by exact zxdo)).trans (qA.2.2.2.1), (World.cell?_setCell_far _ _ _ _ (by exact zxdk)).trans (qA.2.2.2.2.1), (World.cell?_setCell_far _ _ _ _ (by exact zxdk)).trans (qA.2.2.2.2.2.1), (World.cell?_setCell_far _ _ _ _ (by exact zxdk)).trans (qA.2.2.2.2.2.2.1), (World.cell?_setCell_far _ _ _ _ (by exact zxdk)).trans (qA.2.2.2.2.2.2.2.1), (World.cell?_setCell_far _ _ _ _ (by exact zxdg)).trans (qA.2.2.2.2.2.2.2.2.1), (World.cell?_setCell_far _ _ _ _ (by exact zxdg)).trans (qA.2.2.2.2.2.2.2.2.2.1), (World.cell?_setCell_far _ _ _ _ (by exact zxdg)).trans (qA.2.2.2.2.2.2.2.2.2.2)⟩; have iB := iA.far (a := k) n4 (.int .i64 d); have tB := tA.far (a := k) n5 (.int .i64 d); clear dA iA tA qA; generalize hB : (wA.setCell ⟨xd, k, none⟩ (.int .i64 d)) = wB at qB iB tB ⊢; have HB := Lib.hid hB; clear hB)
             | (have e := st1 (d := i) iB; simp [go_sem] at e; refine upon_store e ?_; clear e; have qC : (fun Wo => Wo.cell? ⟨w1.heap.size, 2, none⟩ = some (.slice (some ⟨xc, 0, none⟩) nc jc) ∧ Wo.cell? ⟨w1.heap.size, 3, none⟩ = some (.slice (some ⟨xd, 0, none⟩) nd jd) ∧ Wo.cell? ⟨w1.heap.size, 4, none⟩ = some (.slice (some ⟨xi, 0, none⟩) ni ji) ∧ Wo.cell? ⟨w1.heap.size, 5, none⟩ = some (.slice (some ⟨xt, 0, none⟩) nt jt) ∧ Wo.cell? ⟨w.heap.size + 1 + 1, 0, none⟩ = some (.int .u8 (c 0)) ∧ Wo.cell? ⟨w.heap.size + 1 + 1, 1, none⟩ = some (.int .u8 (c 1)) ∧ Wo.cell? ⟨w.heap.size + 1 + 1, 2, none⟩ = some (.int .u8 (c 2)) ∧ Wo.cell? ⟨w.heap.size + 1 + 1, 3, none⟩ = some (.int .u8 (c 3)) ∧ Wo.cell? ⟨w.heap.size + 1, 0, none⟩ = some (.int .i64 d) ∧ Wo.cell? ⟨w.heap.size + 1, 1, none⟩ = some (.int .i64 i) ∧ Wo.cell? ⟨w.heap.size + 1, 2, none⟩ = some (.int .i64 t)) (wB.setCell ⟨xi, k, none⟩ (.int .i64 i)) := ⟨(World.cell?_setCell_far _ _ _ _ (by exact zxio)).trans (qB.1), (World.cell?_setCell_far _ _ _ _ (by exact zxio)).trans (qB.2.1), (World.cell?_setCell_far _ _ _ _ (by exact zxio)).trans (qB.2.2.1), (World.cell?_setCell_far _ _ _ _ (by exact zxio)).trans (qB.2.2.2.1), (World.cell?_setCell_far _ _ _ _ (by exact zxik)).trans (qB.2.2.2.2.1), (World.cell?_setCell_far _ _ _ _ (by exact zxik)).trans (qB.2.2.2.2.2.1), (World.cell?_setCell_far _ _ _ _ (by exact zxik)).trans (qB.2.2.2.2.2.2.1), (World.cell?_setCell_far _ _ _ _ (by exact zxik)).trans (qB.2.2.2.2.2.2.2.1), (World.cell?_setCell_far _ _ _ _ (by exact zxig)).trans (qB.2.2.2.2.2.2.2.2.1), (World.cell?_setCell_far _ _ _ _ (by exact zxig)).trans (qB.2.2.2.2.2.2.2.2.2.1), (World.cell?_setCell_far _ _ _ _ (by exact zxig)).trans (qB.2.2.2.2.2.2.2.2.2.2)⟩; have tC := tB.far (a := k) n6 (.int .i64 i); clear iB tB qB; generalize hC : (wB.setCell ⟨xi, k, none⟩ (.int .i64 i)) = wC at qC tC ⊢; have HC' := Lib.hid hC; clear hC)
             | (have e := st1 (d := t) tC; simp [go_sem] at e; refine upon_store e ?_; clear e; have qD : (fun Wo => Wo.cell? ⟨w1.heap.size, 2, none⟩ = some (.slice (some ⟨xc, 0, none⟩) nc jc) ∧ Wo.cell? ⟨w1.heap.size, 3, none⟩ = some (.slice (some ⟨xd, 0, none⟩) nd jd) ∧ Wo.cell? ⟨w1.heap.size, 4, none⟩ = some (.slice (some ⟨xi, 0, none⟩) ni ji) ∧ Wo.cell? ⟨w1.heap.size, 5, none⟩ = some (.slice (some ⟨xt, 0, none⟩) nt jt) ∧ Wo.cell? ⟨w.heap.size + 1 + 1, 0, none⟩ = some (.int .u8 (c 0)) ∧ Wo.cell? ⟨w.heap.size + 1 + 1, 1, none⟩ = some (.int .u8 (c 1)) ∧ Wo.cell? ⟨w.heap.size + 1 + 1, 2, none⟩ = some (.int .u8 (c 2)) ∧ Wo.cell? ⟨w.heap.size + 1 + 1, 3, none⟩ = some (.int .u8 (c 3)) ∧ Wo.cell? ⟨w.heap.size + 1, 0, none⟩ = some (.int .i64 d) ∧ Wo.cell? ⟨w.heap.size + 1, 1, none⟩ = some (.int .i64 i) ∧ Wo.cell? ⟨w.heap.size + 1, 2, none⟩ = some (.int .i64 t)) (wC.setCell ⟨xt, k, none⟩ (.int .i64 t)) := ⟨(World.cell?_setCell_far _ _ _ _ (by exact zxto)).trans (qC.1), (World.cell?_setCell_far _ _ _ _ (by exact zxto)).trans (qC.2.1), (World.cell?_setCell_far _ _ _ _ (by exact zxto)).trans (qC.2.2.1), (World.cell?_setCell_far _ _ _ _ (by exact zxto)).trans (qC.2.2.2.1), (World.cell?_setCell_far _ _ _ _ (by exact zxtk)).trans (qC.2.2.2.2.1), (World.cell?_setCell_far _ _ _ _ (by exact zxtk)).trans (qC.2.2.2.2.2.1), (World.cell?_setCell_far _ _ _ _ (by exact zxtk)).trans (qC.2.2.2.2.2.2.1), (World.cell?_setCell_far _ _ _ _ (by exact zxtk)).trans (qC.2.2.2.2.2.2.2.1), (World.cell?_setCell_far _ _ _ _ (by exact zxtg)).trans (qC.2.2.2.2.2.2.2.2.1), (World.cell?_setCell_far _ _ _ _ (by exact zxtg)).trans (qC.2.2.2.2.2.2.2.2.2.1), (World.cell?_setCell_far _ _ _ _ (by exact zxtg)).trans (qC.2.2.2.2.2.2.2.2.2.2)⟩; clear tC qC; generalize hD : (wC.setCell ⟨xt, k, none⟩ (.int .i64 t)) = wD at qD ⊢; have HD := Lib.hid hD; clear hD))
    obtain ⟨zxco, zxdo, zxio, zxto, zxcr, zxdr, zxir, zxtr⟩ := HZ.out
    obtain ⟨lxc, lxd, lxi, lxt⟩ : w.heap.size ≤ xc ∧ w.heap.size ≤ xd ∧ w.heap.size ≤ xi ∧ w.heap.size ≤ xt := by have := Hge.out; omega
    have O5 : HasBlk wD (w1.heap.size) 90 #[.int .i64 W, .int .i64 H, .slice (some ⟨xc, 0, none⟩) nc jc, .slice (some ⟨xd, 0, none⟩) nd jd, .slice (some ⟨xi, 0, none⟩) ni ji, .slice (some ⟨xt, 0, none⟩) nt jt] := by
      rw [← HD.out, ← HC'.out, ← HB.out, ← HA.out]
      exact (HasBlk.far (HasBlk.far (HasBlk.far (HasBlk.drew (HasBlk.far (HasBlk.far (HasBlk.far (HasBlk.far O4.out (p := ⟨xc, k * 4, none⟩) zxco _) (p := ⟨xc, k * 4 + 1, none⟩) zxco _) (p := ⟨xc, k * 4 + 2, none⟩) zxco _) (p := ⟨xc, k * 4 + 3, none⟩) zxco _)) (p := ⟨xd, k, none⟩) zxdo _) (p := ⟨xi, k, none⟩) zxio _) (p := ⟨xt, k, none⟩) zxto _)
    have R5 : HasBlk wD (w.heap.size + 1 + 1 + 1) 29 #[.int .i64 0, .int .i64 0, .slice none 0 0, .slice none 0 0, .slice none 0 0, .slice none 0 0] := by
      rw [← HD.out, ← HC'.out, ← HB.out, ← HA.out]
      exact (HasBlk.far (HasBlk.far (HasBlk.far (HasBlk.drew (HasBlk.far (HasBlk.far (HasBlk.far (HasBlk.far R4.out (p := ⟨xc, k * 4, none⟩) zxcr _) (p := ⟨xc, k * 4 + 1, none⟩) zxcr _) (p := ⟨xc, k * 4 + 2, none⟩) zxcr _) (p := ⟨xc, k * 4 + 3, none⟩) zxcr _)) (p := ⟨xd, k, none⟩) zxdr _) (p := ⟨xi, k, none⟩) zxir _) (p := ⟨xt, k, none⟩) zxtr _)
    have HB5 : Below w.heap.size w wD := by
      rw [← HD.out, ← HC'.out, ← HB.out, ← HA.out]
      exact (Below.setCell (p := ⟨xt, k, none⟩) (Below.setCell (p := ⟨xi, k, none⟩) (Below.setCell (p := ⟨xd, k, none⟩) (Below.drew (Below.setCell (p := ⟨xc, k * 4 + 3, none⟩) (Below.setCell (p := ⟨xc, k * 4 + 2, none⟩) (Below.setCell (p := ⟨xc, k * 4 + 1, none⟩) (Below.setCell (p := ⟨xc, k * 4, none⟩) HB4.out lxc _) lxc _) lxc _) lxc _)) lxd _) lxi _) lxt _)
    have HP := HS4.out
    simp only [Nat.add_zero] at HP
    rw [drew4, HA.out, HB.out, HC'.out, HD.out] at HP
    clear HA HB HC' HD HS4 qD
    have HO5 := Lib.hid HP
    have HB5h := Lib.hid HB5
    clear HP HB5 zxco zxdo zxio zxto zxcr zxdr zxir zxtr lxc lxd lxi lxt
    have o_0 := O5.cell 0
    have o_f0 := R5.frozen 0
    have o_r0 := R5.cell 0
    have o_1 := O5.cell 1
    have o_f1 := R5.frozen 1
    have o_r1 := R5.cell 1
    have o_2 := O5.cell 2
    have o_f2 := R5.frozen 2
    have o_r2 := R5.cell 2
    have o_3 := O5.cell 3
    have o_f3 := R5.frozen 3
    have o_r3 := R5.cell 3
    have o_4 := O5.cell 4
    have o_f4 := R5.frozen 4
    have o_r4 := R5.cell 4
    have o_5 := O5.cell 5
    have o_f5 := R5.frozen 5
    have o_r5 := R5.cell 5
    simp at o_0 o_1 o_2 o_3 o_4 o_5 o_r0 o_r1 o_r2 o_r3 o_r4 o_r5
    clear O5 R5
    go_wp2
    refine bodyPost_ret (v := .tuple #[.agg #[.int .i64 W, .int .i64 H, .slice (some ⟨xc, 0, none⟩) nc jc, .slice (some ⟨xd, 0, none⟩) nd jd, .slice (some ⟨xi, 0, none⟩) ni ji, .slice (some ⟨xt, 0, none⟩) nt jt], .int .i64 0]) (by simp [results, Try.results20, go_sem, *]) rfl ⟨⟨⟨some ⟨xc, 0, none⟩, some ⟨xd, 0, none⟩, some ⟨xi, 0, none⟩, some ⟨xt, 0, none⟩, jc, jd, ji, jt⟩, FD.set ⟨W, H, nc, nd, ni, nt, C, D, I, T⟩ k d i t c, 0, rfl, FOwn.base (FOwn.far (g := w.heap.size + 1 + 1 + 1) (j := 5) (FOwn.far (g := w.heap.size + 1 + 1 + 1) (j := 4) (FOwn.far (g := w.heap.size + 1 + 1 + 1) (j := 3) (FOwn.far (g := w.heap.size + 1 + 1 + 1) (j := 2) (FOwn.far (g := w.heap.size + 1 + 1 + 1) (j := 1) (FOwn.far (g := w.heap.size + 1 + 1 + 1) (j := 0) HO5.out ltR0 _) ltR0 _) ltR0 _) ltR0 _) ltR0 _) ltR0 _) SB1h9, .inr (.inr ⟨Hm.out.1, Hm.out.2, Hs.out, rfl, k, Hk.out.1, ⟨qk1, qk2, qk3, qk4⟩, by unfold FD.put; rw [if_pos Ho.out]⟩)⟩, ?_⟩
    exact (Below.setCell (p := ⟨w.heap.size + 1 + 1 + 1, 5, none⟩) (Below.setCell (p := ⟨w.heap.size + 1 + 1 + 1, 4, none⟩) (Below.setCell (p := ⟨w.heap.size + 1 + 1 + 1, 3, none⟩) (Below.setCell (p := ⟨w.heap.size + 1 + 1 + 1, 2, none⟩) (Below.setCell (p := ⟨w.heap.size + 1 + 1 + 1, 1, none⟩) (Below.setCell (p := ⟨w.heap.size + 1 + 1 + 1, 0, none⟩) HB5h.out (by show w.heap.size ≤ w.heap.size + 1 + 1 + 1; omega) _) (by show w.heap.size ≤ w.heap.size + 1 + 1 + 1; omega) _) (by show w.heap.size ≤ w.heap.size + 1 + 1 + 1; omega) _) (by show w.heap.size ≤ w.heap.size + 1 + 1 + 1; omega) _) (by show w.heap.size ≤ w.heap.size + 1 + 1 + 1; omega) _) (by show w.heap.size ≤ w.heap.size + 1 + 1 + 1; omega) _)
  rw [decide_eq_false hI] at k1
  by_cases hN : NearP d i t 0 (D k) (I k) (T k) 0
  · rw [decide_eq_true hN] at k2
    have Ho := Lib.hid (show FD.Over ⟨W, H, nc, nd, ni, nt, C, D, I, T⟩ k d i t from .inr hN)
    clear hI hN
    skip
    have k1 := Lib.hid k1
    have k2 := Lib.hid k2
    refine wp_region_quiet_bw (by kernel_rfl) (by kernel_rfl) ?_
    repeat (go_big_quiet_step ((first | (go_at_call 56; with_reducible exact k1.out _) | (go_at_call 16; with_reducible exact k2.out _))))
    refine wpQuiet_nil ?_
    intro _ hw'
    obtain ⟨pq, hw''⟩ := hw'
    subst hw''
    have hpq := Lib.hid pq.h
    clear p_O_0 p_O_1 p_O_2 p_O_3 p_O_4 p_O_5 p_G_0 p_G_1 p_G_2 p_G_3 p_G_4 p_G_5 pD pI pT k1 k2
    generalize pq.W = w4 at *
    clear pq
    have O4 := Lib.hid (O.out.below hpq.out)
    have R4 := Lib.hid (R.out.below hpq.out)
    have K4 := Lib.hid (K.out.below hpq.out)
    have G4 := Lib.hid (G.out.below hpq.out)
    have HO4 := Lib.hid (HO.out.below hpq.out)
    have HB4 := Lib.hid (SB4h.out.trans (hpq.out.mono SB4h.out.size))
    have o_0 := O4.out.cell 0
    have o_f0 := R4.out.frozen 0
    have o_r0 := R4.out.cell 0
    have o_1 := O4.out.cell 1
    have o_f1 := R4.out.frozen 1
    have o_r1 := R4.out.cell 1
    have o_2 := O4.out.cell 2
    have o_f2 := R4.out.frozen 2
    have o_r2 := R4.out.cell 2
    have o_3 := O4.out.cell 3
    have o_f3 := R4.out.frozen 3
    have o_r3 := R4.out.cell 3
    have o_4 := O4.out.cell 4
    have o_f4 := R4.out.frozen 4
    have o_r4 := R4.out.cell 4
    have o_5 := O4.out.cell 5
    have o_f5 := R4.out.frozen 5
    have o_r5 := R4.out.cell 5
    simp at o_0 o_1 o_2 o_3 o_4 o_5 o_r0 o_r1 o_r2 o_r3 o_r4 o_r5
    have HOd := HO4.out.below ((Below.refl w4.heap.size w4).drew)
    obtain ⟨zc, zd, zi, zt, ⟨ea, eb, ec, ed⟩, _, ⟨mc, md, mi, mt⟩, ⟨n1, n2, n3, n4, n5, n6⟩, ⟨fc, fd, fi, ft⟩, ⟨cC, cD, cI, cT⟩, _, hset⟩ := FOwn.store HOd qk1 qk2 qk3 qk4
    dsimp only at ea eb ec ed cC cD cI cT
    cases ea
    cases eb
    cases ec
    cases ed
    have tc0 : CT w4.drew xc (k * 4) _ := ⟨cC 0 (by omega), fc (k * 4)⟩
    have tc1 : CT w4.drew xc (k * 4 + 1) _ := ⟨cC 1 (by omega), fc (k * 4 + 1)⟩
    have tc2 : CT w4.drew xc (k * 4 + 2) _ := ⟨cC 2 (by omega), fc (k * 4 + 2)⟩
    have tc3 : CT w4.drew xc (k * 4 + 3) _ := ⟨cC 3 (by omega), fc (k * 4 + 3)⟩
    have td : CT w4.drew xd k _ := ⟨cD, fd k⟩
    have ti : CT w4.drew xi k _ := ⟨cI, fi k⟩
    have tt : CT w4.drew xt k _ := ⟨cT, ft k⟩
    have k_0 := K4.out.cell 0
    have k_1 := K4.out.cell 1
    have k_2 := K4.out.cell 2
    have k_3 := K4.out.cell 3
    have g_0 := G4.out.cell 0
    have g_1 := G4.out.cell 1
    have g_2 := G4.out.cell 2
    simp at k_0 k_1 k_2 k_3 g_0 g_1 g_2
    have HS4 := Lib.hid (hset d i t c)
    have q0 : (fun Wo => Wo.cell? ⟨w1.heap.size, 2, none⟩ = some (.slice (some ⟨xc, 0, none⟩) nc jc) ∧ Wo.cell? ⟨w1.heap.size, 3, none⟩ = some (.slice (some ⟨xd, 0, none⟩) nd jd) ∧ Wo.cell? ⟨w1.heap.size, 4, none⟩ = some (.slice (some ⟨xi, 0, none⟩) ni ji) ∧ Wo.cell? ⟨w1.heap.size, 5, none⟩ = some (.slice (some ⟨xt, 0, none⟩) nt jt) ∧ Wo.cell? ⟨w.heap.size + 1 + 1, 0, none⟩ = some (.int .u8 (c 0)) ∧ Wo.cell? ⟨w.heap.size + 1 + 1, 1, none⟩ = some (.int .u8 (c 1)) ∧ Wo.cell? ⟨w.heap.size + 1 + 1, 2, none⟩ = some (.int .u8 (c 2)) ∧ Wo.cell? ⟨w.heap.size + 1 + 1, 3, none⟩ = some (.int .u8 (c 3)) ∧ Wo.cell? ⟨w.heap.size + 1, 0, none⟩ = some (.int .i64 d) ∧ Wo.cell? ⟨w.heap.size + 1, 1, none⟩ = some (.int .i64 i) ∧ Wo.cell? ⟨w.heap.size + 1, 2, none⟩ = some (.int .i64 t)) w4.drew := ⟨o_2, o_3, o_4, o_5, k_0, k_1, k_2, k_3, g_0, g_1, g_2⟩
    have zxco : xc ≠ w1.heap.size := by have := Hge.out; have := Hlt0.out; omega
    have zxck : xc ≠ w.heap.size + 1 + 1 := by have := Hge.out; have := Hlt0.out; omega
    have zxcg : xc ≠ w.heap.size + 1 := by have := Hge.out; have := Hlt0.out; omega
    have zxcr : xc ≠ w.heap.size + 1 + 1 + 1 := by have := Hge.out; have := Hlt0.out; omega
    have zxdo : xd ≠ w1.heap.size := by have := Hge.out; have := Hlt0.out; omega
    have zxdk : xd ≠ w.heap.size + 1 + 1 := by have := Hge.out; have := Hlt0.out; omega
    have zxdg : xd ≠ w.heap.size + 1 := by have := Hge.out; have := Hlt0.out; omega
    have zxdr : xd ≠ w.heap.size + 1 + 1 + 1 := by have := Hge.out; have := Hlt0.out; omega
    have zxio : xi ≠ w1.heap.size := by have := Hge.out; have := Hlt0.out; omega
    have zxik : xi ≠ w.heap.size + 1 + 1 := by have := Hge.out; have := Hlt0.out; omega
    have zxig : xi ≠ w.heap.size + 1 := by have := Hge.out; have := Hlt0.out; omega
    have zxir : xi ≠ w.heap.size + 1 + 1 + 1 := by have := Hge.out; have := Hlt0.out; omega
    have zxto : xt ≠ w1.heap.size := by have := Hge.out; have := Hlt0.out; omega
    have zxtk : xt ≠ w.heap.size + 1 + 1 := by have := Hge.out; have := Hlt0.out; omega
    have zxtg : xt ≠ w.heap.size + 1 := by have := Hge.out; have := Hlt0.out; omega
    have zxtr : xt ≠ w.heap.size + 1 + 1 + 1 := by have := Hge.out; have := Hlt0.out; omega

    have HZ := Lib.hid (And.intro zxco (And.intro zxdo (And.intro zxio (And.intro zxto (And.intro zxcr (And.intro zxdr (And.intro zxir zxtr)))))))
    clear HOd hset cC cD cI cT fc fd fi ft mc md mi mt k_0 k_1 k_2 k_3 g_0 g_1 g_2 o_0 o_1 o_2 o_3 o_4 o_5 o_f0 o_f1 o_f2 o_f3 o_f4 o_f5 o_r0 o_r1 o_r2 o_r3 o_r4 o_r5 zxcr zxdr zxir zxtr
    go_wp2_with fail
    go_region_held3 (fun Wo => Wo.cell? ⟨w1.heap.size, 2, none⟩ = some (.slice (some ⟨xc, 0, none⟩) nc jc) ∧ Wo.cell? ⟨w1.heap.size, 3, none⟩ = some (.slice (some ⟨xd, 0, none⟩) nd jd) ∧ Wo.cell? ⟨w1.heap.size, 4, none⟩ = some (.slice (some ⟨xi, 0, none⟩) ni ji) ∧ Wo.cell? ⟨w1.heap.size, 5, none⟩ = some (.slice (some ⟨xt, 0, none⟩) nt jt) ∧ Wo.cell? ⟨w.heap.size + 1 + 1, 0, none⟩ = some (.int .u8 (c 0)) ∧ Wo.cell? ⟨w.heap.size + 1 + 1, 1, none⟩ = some (.int .u8 (c 1)) ∧ Wo.cell? ⟨w.heap.size + 1 + 1, 2, none⟩ = some (.int .u8 (c 2)) ∧ Wo.cell? ⟨w.heap.size + 1 + 1, 3, none⟩ = some (.int .u8 (c 3)) ∧ Wo.cell? ⟨w.heap.size + 1, 0, none⟩ = some (.int .i64 d) ∧ Wo.cell? ⟨w.heap.size + 1, 1, none⟩ = some (.int .i64 i) ∧ Wo.cell? ⟨w.heap.size + 1, 2, none⟩ = some (.int .i64 t))
      (first | with_reducible exact qD | with_reducible exact qC | with_reducible exact qB | with_reducible exact qA | with_reducible exact q0 | fail "keep")
      (first | (have e := st4 (a := c 0) (b := c 1) (c := c 2) (d := c 3) tc0 tc1 tc2 tc3; simp [go_sem] at e; refine upon_store e ?_; clear e; have qA : (fun Wo => Wo.cell? ⟨w1.heap.size, 2, none⟩ = some (.slice (some ⟨xc, 0, none⟩) nc jc) ∧ Wo.cell? ⟨w1.heap.size, 3, none⟩ = some (.slice (some ⟨xd, 0, none⟩) nd jd) ∧ Wo.cell? ⟨w1.heap.size, 4, none⟩ = some (.slice (some ⟨xi, 0, none⟩) ni ji) ∧ Wo.cell? ⟨w1.heap.size, 5, none⟩ = some (.slice (some ⟨xt, 0, none⟩) nt jt) ∧ Wo.cell? ⟨w.heap.size + 1 + 1, 0, none⟩ = some (.int .u8 (c 0)) ∧ Wo.cell? ⟨w.heap.size + 1 + 1, 1, none⟩ = some (.int .u8 (c 1)) ∧ Wo.cell? ⟨w.heap.size + 1 + 1, 2, none⟩ = some (.int .u8 (c 2)) ∧ Wo.cell? ⟨w.heap.size + 1 + 1, 3, none⟩ = some (.int .u8 (c 3)) ∧ Wo.cell? ⟨w.heap.size + 1, 0, none⟩ = some (.int .i64 d) ∧ Wo.cell? ⟨w.heap.size + 1, 1, none⟩ = some (.int .i64 i) ∧ Wo.cell? ⟨w.heap.size + 1, 2, none⟩ = some (.int .i64 t)) ((((w4.drew.setCell ⟨xc, k * 4, none⟩ (.int .u8 (c 0))).setCell ⟨xc, k * 4 + 1, none⟩ (.int .u8 (c 1))).setCell ⟨xc, k * 4 + 2, none⟩ (.int .u8 (c 2))).setCell ⟨xc, k * 4 + 3, none⟩ (.int .u8 (c 3))) := ⟨(cell_far4 zxco _ _ _ _).trans (q0.1), (cell_far4 zxco _ _ _ _).trans (q0.2.1), (cell_far4 zxco _ _ _ _).trans (q0.2.2.1), (cell_far4 zxco _ _ _ _).trans (q0.2.2.2.1), (cell_far4 zxck _ _ _ _).trans (q0.2.2.2.2.1), (cell_far4 zxck _ _ _ _).trans (q0.2.2.2.2.2.1), (cell_far4 zxck _ _ _ _).trans (q0.2.2.2.2.2.2.1), (cell_far4 zxck _ _ _ _).trans (q0.2.2.2.2.2.2.2.1), (cell_far4 zxcg _ _ _ _).trans (q0.2.2.2.2.2.2.2.2.1), (cell_far4 zxcg _ _ _ _).trans (q0.2.2.2.2.2.2.2.2.2.1), (cell_far4 zxcg _ _ _ _).trans (q0.2.2.2.2.2.2.2.2.2.2)⟩; have dA : CT ((((w4.drew.setCell ⟨xc, k * 4, none⟩ (.int .u8 (c 0))).setCell ⟨xc, k * 4 + 1, none⟩ (.int .u8 (c 1))).setCell ⟨xc, k * 4 + 2, none⟩ (.int .u8 (c 2))).setCell ⟨xc, k * 4 + 3, none⟩ (.int .u8 (c 3))) xd k (.int .i64 (D k)) := td.far4 (a := k * 4) (b := k * 4 + 1) (c := k * 4 + 2) (d := k * 4 + 3) n1 (.int .u8 (c 0)) (.int .u8 (c 1)) (.int .u8 (c 2)) (.int .u8 (c 3)); have iA : CT ((((w4.drew.setCell ⟨xc, k * 4, none⟩ (.int .u8 (c 0))).setCell ⟨xc, k * 4 + 1, none⟩ (.int .u8 (c 1))).setCell ⟨xc, k * 4 + 2, none⟩ (.int .u8 (c 2))).setCell ⟨xc, k * 4 + 3, none⟩ (.int .u8 (c 3))) xi k (.int .i64 (I k)) := ti.far4 (a := k * 4) (b := k * 4 + 1) (c := k * 4 + 2) (d := k * 4 + 3) n2 (.int .u8 (c 0)) (.int .u8 (c 1)) (.int .u8 (c 2)) (.int .u8 (c 3)); have tA : CT ((((w4.drew.setCell ⟨xc, k * 4, none⟩ (.int .u8 (c 0))).setCell ⟨xc, k * 4 + 1, none⟩ (.int .u8 (c 1))).setCell ⟨xc, k * 4 + 2, none⟩ (.int .u8 (c 2))).setCell ⟨xc, k * 4 + 3, none⟩ (.int .u8 (c 3))) xt k (.int .i64 (T k)) := tt.far4 (a := k * 4) (b := k * 4 + 1) (c := k * 4 + 2) (d := k * 4 + 3) n3 (.int .u8 (c 0)) (.int .u8 (c 1)) (.int .u8 (c 2)) (.int .u8 (c 3)); clear tc0 tc1 tc2 tc3 td ti tt q0; rw [drew4] at qA dA iA tA; generalize hA : (((((w4.setCell ⟨xc, k * 4, none⟩ (.int .u8 (c 0))).setCell ⟨xc, k * 4 + 1, none⟩ (.int .u8 (c 1))).setCell ⟨xc, k * 4 + 2, none⟩ (.int .u8 (c 2))).setCell ⟨xc, k * 4 + 3, none⟩ (.int .u8 (c 3))).drew) = wA at qA dA iA tA ⊢; have HA := Lib.hid hA; clear hA)
             | (have e := st1 (d := d) dA; simp [go_sem] at e; refine upon_store e ?_; clear e; have qB : (fun Wo => Wo.cell? ⟨w1.heap.size, 2, none⟩ = some (.slice (some ⟨xc, 0, none⟩) nc jc) ∧ Wo.cell? ⟨w1.heap.size, 3, none⟩ = some (.slice (some ⟨xd, 0, none⟩) nd jd) ∧ Wo.cell? ⟨w1.heap.size, 4, none⟩ = some (.slice (some ⟨xi, 0, none⟩) ni ji) ∧ Wo.cell? ⟨w1.heap.size, 5, none⟩ = some (.slice (some ⟨xt, 0, none⟩) nt jt) ∧ Wo.cell? ⟨w.heap.size + 1 + 1, 0, none⟩ = some (.int .u8 (c 0)) ∧ Wo.cell? ⟨w.heap.size + 1 + 1, 1, none⟩ = some (.int .u8 (c 1)) ∧ Wo.cell? ⟨w.heap.size + 1 + 1, 2, none⟩ = some (.int .u8 (c 2)) ∧ Wo.cell? ⟨w.heap.size + 1 + 1, 3, none⟩ = some (.int .u8 (c 3)) ∧ Wo.cell? ⟨w.heap.size + 1, 0, none⟩ = some (.int .i64 d) ∧ Wo.cell? ⟨w.heap.size + 1, 1, none⟩ = some (.int .i64 i) ∧ Wo.cell? ⟨w.heap.size + 1, 2, none⟩ = some (.int .i64 t)) (wA.setCell ⟨xd, k, none⟩ (.int .i64 d)) := ⟨(World.cell?_setCell_far _ _ _ _ (by exact zxdo)).trans (qA.1), (World.cell?_setCell_far _ _ _ _ (by exact zxdo)).trans (qA.2.1), (World.cell?_setCell_far _ _ _ _ (by exact zxdo)).trans (qA.2.2.1), (World.cell?_setCell_far _ _ _ _ (by exact zxdo)).trans (qA.2.2.2.1), (World.cell?_setCell_far _ _ _ _ (by exact zxdk)).trans (qA.2.2.2.2.1), (World.cell?_setCell_far _ _ _ _ (by exact zxdk)).trans (qA.2.2.2.2.2.1), (World.cell?_setCell_far _ _ _ _ (by exact zxdk)).trans (qA.2.2.2.2.2.2.1), (World.cell?_setCell_far _ _ _ _ (by exact zxdk)).trans (qA.2.2.2.2.2.2.2.1), (World.cell?_setCell_far _ _ _ _ (by exact zxdg)).trans (qA.2.2.2.2.2.2.2.2.1), (World.cell?_setCell_far _ _ _ _ (by exact zxdg)).trans (qA.2.2.2.2.2.2.2.2.2.1), (World.cell?_setCell_far _ _ _ _ (by exact zxdg)).trans (qA.2.2.2.2.2.2.2.2.2.2)⟩; have iB := iA.far (a := k) n4 (.int .i64 d); have tB := tA.far (a := k) n5 (.int .i64 d); clear dA iA tA qA; generalize hB : (wA.setCell ⟨xd, k, none⟩ (.int .i64 d)) = wB at qB iB tB ⊢; have HB := Lib.hid hB; clear hB)
             | (have e := st1 (d := i) iB; simp [go_sem] at e; refine upon_store e ?_; clear e; have qC : (fun Wo => Wo.cell? ⟨w1.heap.size, 2, none⟩ = some (.slice (some ⟨xc, 0, none⟩) nc jc) ∧ Wo.cell? ⟨w1.heap.size, 3, none⟩ = some (.slice (some ⟨xd, 0, none⟩) nd jd) ∧ Wo.cell? ⟨w1.heap.size, 4, none⟩ = some (.slice (some ⟨xi, 0, none⟩) ni ji) ∧ Wo.cell? ⟨w1.heap.size, 5, none⟩ = some (.slice (some ⟨xt, 0, none⟩) nt jt) ∧ Wo.cell? ⟨w.heap.size + 1 + 1, 0, none⟩ = some (.int .u8 (c 0)) ∧ Wo.cell? ⟨w.heap.size + 1 + 1, 1, none⟩ = some (.int .u8 (c 1)) ∧ Wo.cell? ⟨w.heap.size + 1 + 1, 2, none⟩ = some (.int .u8 (c 2)) ∧ Wo.cell? ⟨w.heap.size + 1 + 1, 3, none⟩ = some (.int .u8 (c 3)) ∧ Wo.cell? ⟨w.heap.size + 1, 0, none⟩ = some (.int .i64 d) ∧ Wo.cell? ⟨w.heap.size + 1, 1, none⟩ = some (.int .i64 i) ∧ Wo.cell? ⟨w.heap.size + 1, 2, none⟩ = some (.int .i64 t)) (wB.setCell ⟨xi, k, none⟩ (.int .i64 i)) := ⟨(World.cell?_setCell_far _ _ _ _ (by exact zxio)).trans (qB.1), (World.cell?_setCell_far _ _ _ _ (by exact zxio)).trans (qB.2.1), (World.cell?_setCell_far _ _ _ _ (by exact zxio)).trans (qB.2.2.1), (World.cell?_setCell_far _ _ _ _ (by exact zxio)).trans (qB.2.2.2.1), (World.cell?_setCell_far _ _ _ _ (by exact zxik)).trans (qB.2.2.2.2.1), (World.cell?_setCell_far _ _ _ _ (by exact zxik)).trans (qB.2.2.2.2.2.1), (World.cell?_setCell_far _ _ _ _ (by exact zxik)).trans (qB.2.2.2.2.2.2.1), (World.cell?_setCell_far _ _ _ _ (by exact zxik)).trans (qB.2.2.2.2.2.2.2.1), (World.cell?_setCell_far _ _ _ _ (by exact zxig)).trans (qB.2.2.2.2.2.2.2.2.1), (World.cell?_setCell_far _ _ _ _ (by exact zxig)).trans (qB.2.2.2.2.2.2.2.2.2.1), (World.cell?_setCell_far _ _ _ _ (by exact zxig)).trans (qB.2.2.2.2.2.2.2.2.2.2)⟩; have tC := tB.far (a := k) n6 (.int .i64 i); clear iB tB qB; generalize hC : (wB.setCell ⟨xi, k, none⟩ (.int .i64 i)) = wC at qC tC ⊢; have HC' := Lib.hid hC; clear hC)
             | (have e := st1 (d := t) tC; simp [go_sem] at e; refine upon_store e ?_; clear e; have qD : (fun Wo => Wo.cell? ⟨w1.heap.size, 2, none⟩ = some (.slice (some ⟨xc, 0, none⟩) nc jc) ∧ Wo.cell? ⟨w1.heap.size, 3, none⟩ = some (.slice (some ⟨xd, 0, none⟩) nd jd) ∧ Wo.cell? ⟨w1.heap.size, 4, none⟩ = some (.slice (some ⟨xi, 0, none⟩) ni ji) ∧ Wo.cell? ⟨w1.heap.size, 5, none⟩ = some (.slice (some ⟨xt, 0, none⟩) nt jt) ∧ Wo.cell? ⟨w.heap.size + 1 + 1, 0, none⟩ = some (.int .u8 (c 0)) ∧ Wo.cell? ⟨w.heap.size + 1 + 1, 1, none⟩ = some (.int .u8 (c 1)) ∧ Wo.cell? ⟨w.heap.size + 1 + 1, 2, none⟩ = some (.int .u8 (c 2)) ∧ Wo.cell? ⟨w.heap.size + 1 + 1, 3, none⟩ = some (.int .u8 (c 3)) ∧ Wo.cell? ⟨w.heap.size + 1, 0, none⟩ = some (.int .i64 d) ∧ Wo.cell? ⟨w.heap.size + 1, 1, none⟩ = some (.int .i64 i) ∧ Wo.cell? ⟨w.heap.size + 1, 2, none⟩ = some (.int .i64 t)) (wC.setCell ⟨xt, k, none⟩ (.int .i64 t)) := ⟨(World.cell?_setCell_far _ _ _ _ (by exact zxto)).trans (qC.1), (World.cell?_setCell_far _ _ _ _ (by exact zxto)).trans (qC.2.1), (World.cell?_setCell_far _ _ _ _ (by exact zxto)).trans (qC.2.2.1), (World.cell?_setCell_far _ _ _ _ (by exact zxto)).trans (qC.2.2.2.1), (World.cell?_setCell_far _ _ _ _ (by exact zxtk)).trans (qC.2.2.2.2.1), (World.cell?_setCell_far _ _ _ _ (by exact zxtk)).trans (qC.2.2.2.2.2.1), (World.cell?_setCell_far _ _ _ _ (by exact zxtk)).trans (qC.2.2.2.2.2.2.1), (World.cell?_setCell_far _ _ _ _ (by exact zxtk)).trans (qC.2.2.2.2.2.2.2.1), (World.cell?_setCell_far _ _ _ _ (by exact zxtg)).trans (qC.2.2.2.2.2.2.2.2.1), (World.cell?_setCell_far _ _ _ _ (by exact zxtg)).trans (qC.2.2.2.2.2.2.2.2.2.1), (World.cell?_setCell_far _ _ _ _ (by exact zxtg)).trans (qC.2.2.2.2.2.2.2.2.2.2)⟩; clear tC qC; generalize hD : (wC.setCell ⟨xt, k, none⟩ (.int .i64 t)) = wD at qD ⊢; have HD := Lib.hid hD; clear hD))
    obtain ⟨zxco, zxdo, zxio, zxto, zxcr, zxdr, zxir, zxtr⟩ := HZ.out
    obtain ⟨lxc, lxd, lxi, lxt⟩ : w.heap.size ≤ xc ∧ w.heap.size ≤ xd ∧ w.heap.size ≤ xi ∧ w.heap.size ≤ xt := by have := Hge.out; omega
    have O5 : HasBlk wD (w1.heap.size) 90 #[.int .i64 W, .int .i64 H, .slice (some ⟨xc, 0, none⟩) nc jc, .slice (some ⟨xd, 0, none⟩) nd jd, .slice (some ⟨xi, 0, none⟩) ni ji, .slice (some ⟨xt, 0, none⟩) nt jt] := by
      rw [← HD.out, ← HC'.out, ← HB.out, ← HA.out]
      exact (HasBlk.far (HasBlk.far (HasBlk.far (HasBlk.drew (HasBlk.far (HasBlk.far (HasBlk.far (HasBlk.far O4.out (p := ⟨xc, k * 4, none⟩) zxco _) (p := ⟨xc, k * 4 + 1, none⟩) zxco _) (p := ⟨xc, k * 4 + 2, none⟩) zxco _) (p := ⟨xc, k * 4 + 3, none⟩) zxco _)) (p := ⟨xd, k, none⟩) zxdo _) (p := ⟨xi, k, none⟩) zxio _) (p := ⟨xt, k, none⟩) zxto _)
    have R5 : HasBlk wD (w.heap.size + 1 + 1 + 1) 29 #[.int .i64 0, .int .i64 0, .slice none 0 0, .slice none 0 0, .slice none 0 0, .slice none 0 0] := by
      rw [← HD.out, ← HC'.out, ← HB.out, ← HA.out]
      exact (HasBlk.far (HasBlk.far (HasBlk.far (HasBlk.drew (HasBlk.far (HasBlk.far (HasBlk.far (HasBlk.far R4.out (p := ⟨xc, k * 4, none⟩) zxcr _) (p := ⟨xc, k * 4 + 1, none⟩) zxcr _) (p := ⟨xc, k * 4 + 2, none⟩) zxcr _) (p := ⟨xc, k * 4 + 3, none⟩) zxcr _)) (p := ⟨xd, k, none⟩) zxdr _) (p := ⟨xi, k, none⟩) zxir _) (p := ⟨xt, k, none⟩) zxtr _)
    have HB5 : Below w.heap.size w wD := by
      rw [← HD.out, ← HC'.out, ← HB.out, ← HA.out]
      exact (Below.setCell (p := ⟨xt, k, none⟩) (Below.setCell (p := ⟨xi, k, none⟩) (Below.setCell (p := ⟨xd, k, none⟩) (Below.drew (Below.setCell (p := ⟨xc, k * 4 + 3, none⟩) (Below.setCell (p := ⟨xc, k * 4 + 2, none⟩) (Below.setCell (p := ⟨xc, k * 4 + 1, none⟩) (Below.setCell (p := ⟨xc, k * 4, none⟩) HB4.out lxc _) lxc _) lxc _) lxc _)) lxd _) lxi _) lxt _)
    have HP := HS4.out
    simp only [Nat.add_zero] at HP
    rw [drew4, HA.out, HB.out, HC'.out, HD.out] at HP
    clear HA HB HC' HD HS4 qD
    have HO5 := Lib.hid HP
    have HB5h := Lib.hid HB5
    clear HP HB5 zxco zxdo zxio zxto zxcr zxdr zxir zxtr lxc lxd lxi lxt
    have o_0 := O5.cell 0
    have o_f0 := R5.frozen 0
    have o_r0 := R5.cell 0
    have o_1 := O5.cell 1
    have o_f1 := R5.frozen 1
    have o_r1 := R5.cell 1
    have o_2 := O5.cell 2
    have o_f2 := R5.frozen 2
    have o_r2 := R5.cell 2
    have o_3 := O5.cell 3
    have o_f3 := R5.frozen 3
    have o_r3 := R5.cell 3
    have o_4 := O5.cell 4
    have o_f4 := R5.frozen 4
    have o_r4 := R5.cell 4
    have o_5 := O5.cell 5
    have o_f5 := R5.frozen 5
    have o_r5 := R5.cell 5
    simp at o_0 o_1 o_2 o_3 o_4 o_5 o_r0 o_r1 o_r2 o_r3 o_r4 o_r5
    clear O5 R5
    go_wp2
    refine bodyPost_ret (v := .tuple #[.agg #[.int .i64 W, .int .i64 H, .slice (some ⟨xc, 0, none⟩) nc jc, .slice (some ⟨xd, 0, none⟩) nd jd, .slice (some ⟨xi, 0, none⟩) ni ji, .slice (some ⟨xt, 0, none⟩) nt jt], .int .i64 0]) (by simp [results, Try.results20, go_sem, *]) rfl ⟨⟨⟨some ⟨xc, 0, none⟩, some ⟨xd, 0, none⟩, some ⟨xi, 0, none⟩, some ⟨xt, 0, none⟩, jc, jd, ji, jt⟩, FD.set ⟨W, H, nc, nd, ni, nt, C, D, I, T⟩ k d i t c, 0, rfl, FOwn.base (FOwn.far (g := w.heap.size + 1 + 1 + 1) (j := 5) (FOwn.far (g := w.heap.size + 1 + 1 + 1) (j := 4) (FOwn.far (g := w.heap.size + 1 + 1 + 1) (j := 3) (FOwn.far (g := w.heap.size + 1 + 1 + 1) (j := 2) (FOwn.far (g := w.heap.size + 1 + 1 + 1) (j := 1) (FOwn.far (g := w.heap.size + 1 + 1 + 1) (j := 0) HO5.out ltR0 _) ltR0 _) ltR0 _) ltR0 _) ltR0 _) ltR0 _) SB1h9, .inr (.inr ⟨Hm.out.1, Hm.out.2, Hs.out, rfl, k, Hk.out.1, ⟨qk1, qk2, qk3, qk4⟩, by unfold FD.put; rw [if_pos Ho.out]⟩)⟩, ?_⟩
    exact (Below.setCell (p := ⟨w.heap.size + 1 + 1 + 1, 5, none⟩) (Below.setCell (p := ⟨w.heap.size + 1 + 1 + 1, 4, none⟩) (Below.setCell (p := ⟨w.heap.size + 1 + 1 + 1, 3, none⟩) (Below.setCell (p := ⟨w.heap.size + 1 + 1 + 1, 2, none⟩) (Below.setCell (p := ⟨w.heap.size + 1 + 1 + 1, 1, none⟩) (Below.setCell (p := ⟨w.heap.size + 1 + 1 + 1, 0, none⟩) HB5h.out (by show w.heap.size ≤ w.heap.size + 1 + 1 + 1; omega) _) (by show w.heap.size ≤ w.heap.size + 1 + 1 + 1; omega) _) (by show w.heap.size ≤ w.heap.size + 1 + 1 + 1; omega) _) (by show w.heap.size ≤ w.heap.size + 1 + 1 + 1; omega) _) (by show w.heap.size ≤ w.heap.size + 1 + 1 + 1; omega) _) (by show w.heap.size ≤ w.heap.size + 1 + 1 + 1; omega) _)
  rw [decide_eq_false hN] at k2
  have Ho := Lib.hid (show ¬ FD.Over ⟨W, H, nc, nd, ni, nt, C, D, I, T⟩ k d i t from fun z => by rcases z with z | z; exact hI z; exact hN z)
  clear hI hN
  skip
  have k1 := Lib.hid k1
  have k2 := Lib.hid k2
  refine wp_region_quiet_bw (by kernel_rfl) (by kernel_rfl) ?_
  repeat (go_big_quiet_step ((first | (go_at_call 56; with_reducible exact k1.out _) | (go_at_call 16; with_reducible exact k2.out _))))
  refine wpQuiet_nil ?_
  intro _ hw'
  obtain ⟨pq, hw''⟩ := hw'
  subst hw''
  have hpq := Lib.hid pq.h
  clear p_O_0 p_O_1 p_O_2 p_O_3 p_O_4 p_O_5 p_G_0 p_G_1 p_G_2 p_G_3 p_G_4 p_G_5 pD pI pT k1 k2
  generalize pq.W = w4 at *
  clear pq
  have O4 := Lib.hid (O.out.below hpq.out)
  have R4 := Lib.hid (R.out.below hpq.out)
  have K4 := Lib.hid (K.out.below hpq.out)
  have G4 := Lib.hid (G.out.below hpq.out)
  have HO4 := Lib.hid (HO.out.below hpq.out)
  have HB4 := Lib.hid (SB4h.out.trans (hpq.out.mono SB4h.out.size))
  have o_0 := O4.out.cell 0
  have o_f0 := R4.out.frozen 0
  have o_r0 := R4.out.cell 0
  have o_1 := O4.out.cell 1
  have o_f1 := R4.out.frozen 1
  have o_r1 := R4.out.cell 1
  have o_2 := O4.out.cell 2
  have o_f2 := R4.out.frozen 2
  have o_r2 := R4.out.cell 2
  have o_3 := O4.out.cell 3
  have o_f3 := R4.out.frozen 3
  have o_r3 := R4.out.cell 3
  have o_4 := O4.out.cell 4
  have o_f4 := R4.out.frozen 4
  have o_r4 := R4.out.cell 4
  have o_5 := O4.out.cell 5
  have o_f5 := R4.out.frozen 5
  have o_r5 := R4.out.cell 5
  simp at o_0 o_1 o_2 o_3 o_4 o_5 o_r0 o_r1 o_r2 o_r3 o_r4 o_r5
  go_wp2
  refine bodyPost_ret (v := .tuple #[.agg #[.int .i64 W, .int .i64 H, .slice (some ⟨xc, 0, none⟩) nc jc, .slice (some ⟨xd, 0, none⟩) nd jd, .slice (some ⟨xi, 0, none⟩) ni ji, .slice (some ⟨xt, 0, none⟩) nt jt], .int .i64 0]) (by simp [results, Try.results20, go_sem, *]) rfl ⟨⟨⟨some ⟨xc, 0, none⟩, some ⟨xd, 0, none⟩, some ⟨xi, 0, none⟩, some ⟨xt, 0, none⟩, jc, jd, ji, jt⟩, ⟨W, H, nc, nd, ni, nt, C, D, I, T⟩, 0, rfl, FOwn.base (FOwn.far (g := w.heap.size + 1 + 1 + 1) (j := 5) (FOwn.far (g := w.heap.size + 1 + 1 + 1) (j := 4) (FOwn.far (g := w.heap.size + 1 + 1 + 1) (j := 3) (FOwn.far (g := w.heap.size + 1 + 1 + 1) (j := 2) (FOwn.far (g := w.heap.size + 1 + 1 + 1) (j := 1) (FOwn.far (g := w.heap.size + 1 + 1 + 1) (j := 0) HO4.out ltR0 _) ltR0 _) ltR0 _) ltR0 _) ltR0 _) ltR0 _) SB1h9, .inr (.inr ⟨Hm.out.1, Hm.out.2, Hs.out, rfl, k, Hk.out.1, ⟨qk1, qk2, qk3, qk4⟩, by unfold FD.put; rw [if_neg Ho.out]⟩)⟩, ?_⟩
  exact (Below.setCell (p := ⟨w.heap.size + 1 + 1 + 1, 5, none⟩) (Below.setCell (p := ⟨w.heap.size + 1 + 1 + 1, 4, none⟩) (Below.setCell (p := ⟨w.heap.size + 1 + 1 + 1, 3, none⟩) (Below.setCell (p := ⟨w.heap.size + 1 + 1 + 1, 2, none⟩) (Below.setCell (p := ⟨w.heap.size + 1 + 1 + 1, 1, none⟩) (Below.setCell (p := ⟨w.heap.size + 1 + 1 + 1, 0, none⟩) HB4.out (by show w.heap.size ≤ w.heap.size + 1 + 1 + 1; omega) _) (by show w.heap.size ≤ w.heap.size + 1 + 1 + 1; omega) _) (by show w.heap.size ≤ w.heap.size + 1 + 1 + 1; omega) _) (by show w.heap.size ≤ w.heap.size + 1 + 1 + 1; omega) _) (by show w.heap.size ≤ w.heap.size + 1 + 1 + 1; omega) _) (by show w.heap.size ≤ w.heap.size + 1 + 1 + 1; omega) _)
end Go.Proofs.Ytibeoeooajelgaa
