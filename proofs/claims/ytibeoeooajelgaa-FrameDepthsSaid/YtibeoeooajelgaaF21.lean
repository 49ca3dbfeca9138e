/- FrameDepths: the walk, one case. -/
import Derived.Test.YtibeoeooajelgaaF31
namespace Go.Proofs.Ytibeoeooajelgaa
open Go.RowKit
set_option linter.unusedVariables false
set_option maxRecDepth 100000 in
set_option maxHeartbeats 16000000 in
theorem depths_21 (p : FP) (f : FD) (x y d i t b u s e : Int) (c : Nat → Int) (w : World) (h : FOk w p f) (hbd : (f.nc : Int) ≤ 9223372036854775807 ∧ (f.nd : Int) ≤ 9223372036854775807 ∧ (f.ni : Int) ≤ 9223372036854775807 ∧ (f.nt : Int) ≤ 9223372036854775807) (hin : f.In x y) (hs : SomeP d i t) (hd : DeepP e) : Calls Try.prog 9 #[.agg #[.int .i64 f.W, .int .i64 f.H, .slice p.ac f.nc p.kc, .slice p.ad f.nd p.kd, .slice p.ai f.ni p.ki, .slice p.a4 f.nt p.kt], .int .i64 x, .int .i64 y, .agg #[.int .i64 d, .int .i64 i, .int .i64 t, .int .i64 b, .int .i64 u, .int .i64 s], .int .i64 e, .agg #[.int .u8 (c 0), .int .u8 (c 1), .int .u8 (c 2), .int .u8 (c 3)]] w fun e' w' => e' = .returned (.bool true) ∧ Below w.heap.size w w' := by
  obtain ⟨ac0, ad0, ai0, at0, mc0, md0, mi0, mt0⟩ := p
  dsimp only
  have HF := Lib.hid h
  have Hbd := Lib.hid hbd
  have Hin := Lib.hid hin
  have Hs := Lib.hid hs
  have Hd := Lib.hid hd
  clear hs hd
  clear h hbd hin
  go_enter Try.func9, Try.ntmps9
  go_wp2_with fail
  have NE_Fb_A := Lib.hid (show w.heap.size ≠ w.heap.size + 1 by omega)
  have NE_Fb_K := Lib.hid (show w.heap.size ≠ w.heap.size + 1 + 1 by omega)
  have NE_A_K := Lib.hid (show w.heap.size + 1 ≠ w.heap.size + 1 + 1 by omega)
  have s_Fb : HasBlk (w.alloc (.cells #[.int .i64 f.W, .int .i64 f.H, .slice ac0 f.nc mc0, .slice ad0 f.nd md0, .slice ai0 f.ni mi0, .slice at0 f.nt mt0] 29)) (w.heap.size) 29 #[.int .i64 f.W, .int .i64 f.H, .slice ac0 f.nc mc0, .slice ad0 f.nd md0, .slice ai0 f.ni mi0, .slice at0 f.nt mt0] := by simpa using hasBlk_new w 29 #[.int .i64 f.W, .int .i64 f.H, .slice ac0 f.nc mc0, .slice ad0 f.nd md0, .slice ai0 f.ni mi0, .slice at0 f.nt mt0]
  replace s_Fb := s_Fb.alloc (.cells #[.int .i64 d, .int .i64 i, .int .i64 t, .int .i64 b, .int .i64 u, .int .i64 s] 25)
  have s_A : HasBlk ((w.alloc (.cells #[.int .i64 f.W, .int .i64 f.H, .slice ac0 f.nc mc0, .slice ad0 f.nd md0, .slice ai0 f.ni mi0, .slice at0 f.nt mt0] 29)).alloc (.cells #[.int .i64 d, .int .i64 i, .int .i64 t, .int .i64 b, .int .i64 u, .int .i64 s] 25)) (w.heap.size + 1) 25 #[.int .i64 d, .int .i64 i, .int .i64 t, .int .i64 b, .int .i64 u, .int .i64 s] := by simpa using hasBlk_new (w.alloc (.cells #[.int .i64 f.W, .int .i64 f.H, .slice ac0 f.nc mc0, .slice ad0 f.nd md0, .slice ai0 f.ni mi0, .slice at0 f.nt mt0] 29)) 25 #[.int .i64 d, .int .i64 i, .int .i64 t, .int .i64 b, .int .i64 u, .int .i64 s]
  replace s_Fb := s_Fb.alloc (.cells #[.int .u8 (c 0), .int .u8 (c 1), .int .u8 (c 2), .int .u8 (c 3)] 23)
  replace s_A := s_A.alloc (.cells #[.int .u8 (c 0), .int .u8 (c 1), .int .u8 (c 2), .int .u8 (c 3)] 23)
  have s_K : HasBlk (((w.alloc (.cells #[.int .i64 f.W, .int .i64 f.H, .slice ac0 f.nc mc0, .slice ad0 f.nd md0, .slice ai0 f.ni mi0, .slice at0 f.nt mt0] 29)).alloc (.cells #[.int .i64 d, .int .i64 i, .int .i64 t, .int .i64 b, .int .i64 u, .int .i64 s] 25)).alloc (.cells #[.int .u8 (c 0), .int .u8 (c 1), .int .u8 (c 2), .int .u8 (c 3)] 23)) (w.heap.size + 1 + 1) 23 #[.int .u8 (c 0), .int .u8 (c 1), .int .u8 (c 2), .int .u8 (c 3)] := by simpa using hasBlk_new ((w.alloc (.cells #[.int .i64 f.W, .int .i64 f.H, .slice ac0 f.nc mc0, .slice ad0 f.nd md0, .slice ai0 f.ni mi0, .slice at0 f.nt mt0] 29)).alloc (.cells #[.int .i64 d, .int .i64 i, .int .i64 t, .int .i64 b, .int .i64 u, .int .i64 s] 25)) 23 #[.int .u8 (c 0), .int .u8 (c 1), .int .u8 (c 2), .int .u8 (c 3)]
  have t_Fb : HasBlk (((w.alloc (.cells #[.int .i64 f.W, .int .i64 f.H, .slice ac0 f.nc mc0, .slice ad0 f.nd md0, .slice ai0 f.ni mi0, .slice at0 f.nt mt0] 29)).alloc (.cells #[.int .i64 d, .int .i64 i, .int .i64 t, .int .i64 b, .int .i64 u, .int .i64 s] 25)).alloc (.cells #[.int .u8 (c 0), .int .u8 (c 1), .int .u8 (c 2), .int .u8 (c 3)] 23)) (w.heap.size) 29 #[.int .i64 f.W, .int .i64 f.H, .slice ac0 f.nc mc0, .slice ad0 f.nd md0, .slice ai0 f.ni mi0, .slice at0 f.nt mt0] := by simpa using s_Fb
  clear s_Fb
  have t_A : HasBlk (((w.alloc (.cells #[.int .i64 f.W, .int .i64 f.H, .slice ac0 f.nc mc0, .slice ad0 f.nd md0, .slice ai0 f.ni mi0, .slice at0 f.nt mt0] 29)).alloc (.cells #[.int .i64 d, .int .i64 i, .int .i64 t, .int .i64 b, .int .i64 u, .int .i64 s] 25)).alloc (.cells #[.int .u8 (c 0), .int .u8 (c 1), .int .u8 (c 2), .int .u8 (c 3)] 23)) (w.heap.size + 1) 25 #[.int .i64 d, .int .i64 i, .int .i64 t, .int .i64 b, .int .i64 u, .int .i64 s] := by simpa using s_A
  clear s_A
  have t_K : HasBlk (((w.alloc (.cells #[.int .i64 f.W, .int .i64 f.H, .slice ac0 f.nc mc0, .slice ad0 f.nd md0, .slice ai0 f.ni mi0, .slice at0 f.nt mt0] 29)).alloc (.cells #[.int .i64 d, .int .i64 i, .int .i64 t, .int .i64 b, .int .i64 u, .int .i64 s] 25)).alloc (.cells #[.int .u8 (c 0), .int .u8 (c 1), .int .u8 (c 2), .int .u8 (c 3)] 23)) (w.heap.size + 1 + 1) 23 #[.int .u8 (c 0), .int .u8 (c 1), .int .u8 (c 2), .int .u8 (c 3)] := by simpa using s_K
  clear s_K
  have SB1 : Below w.heap.size w (((w.alloc (.cells #[.int .i64 f.W, .int .i64 f.H, .slice ac0 f.nc mc0, .slice ad0 f.nd md0, .slice ai0 f.ni mi0, .slice at0 f.nt mt0] 29)).alloc (.cells #[.int .i64 d, .int .i64 i, .int .i64 t, .int .i64 b, .int .i64 u, .int .i64 s] 25)).alloc (.cells #[.int .u8 (c 0), .int .u8 (c 1), .int .u8 (c 2), .int .u8 (c 3)] 23)) := by
    repeat' (first | exact Below.refl _ _ | assumption | apply Below.drew | refine Below.setCell ?_ (by first | omega | (simp; done) | (simp; omega)) _ | refine Below.alloc ?_ (by first | omega | (simp; done) | (simp; omega)) _)
  generalize gW_v0 : (((w.alloc (.cells #[.int .i64 f.W, .int .i64 f.H, .slice ac0 f.nc mc0, .slice ad0 f.nd md0, .slice ai0 f.ni mi0, .slice at0 f.nt mt0] 29)).alloc (.cells #[.int .i64 d, .int .i64 i, .int .i64 t, .int .i64 b, .int .i64 u, .int .i64 s] 25)).alloc (.cells #[.int .u8 (c 0), .int .u8 (c 1), .int .u8 (c 2), .int .u8 (c 3)] 23)) = v0 at *
  clear gW_v0
  have Fb := Lib.hid t_Fb
  clear t_Fb
  have A := Lib.hid t_A
  clear t_A
  have K := Lib.hid t_K
  clear t_K
  have SB1h := Lib.hid SB1
  clear SB1
  refine (alive_any _).mono ?_
  rintro e w1 ⟨rfl, bel1⟩
  have t_Fb := Fb.out.below bel1
  clear Fb
  have Fb := Lib.hid t_Fb
  clear t_Fb
  have t_A := A.out.below bel1
  clear A
  have A := Lib.hid t_A
  clear t_A
  have t_K := K.out.below bel1
  clear K
  have K := Lib.hid t_K
  clear t_K
  have SB2 : Below w.heap.size w w1 := SB1h.out.trans (bel1.mono SB1h.out.size)
  clear SB1h
  have SB2h := Lib.hid SB2
  clear SB2 bel1
  have lt_Fb := Fb.out.lt
  have Fb_0 := Fb.out.cell 0
  have Fb_1 := Fb.out.cell 1
  have Fb_2 := Fb.out.cell 2
  have Fb_3 := Fb.out.cell 3
  have Fb_4 := Fb.out.cell 4
  have Fb_5 := Fb.out.cell 5
  simp at Fb_0 Fb_1 Fb_2 Fb_3 Fb_4 Fb_5
  have lt_A := A.out.lt
  have A_0 := A.out.cell 0
  have A_1 := A.out.cell 1
  have A_2 := A.out.cell 2
  have A_3 := A.out.cell 3
  have A_4 := A.out.cell 4
  have A_5 := A.out.cell 5
  simp at A_0 A_1 A_2 A_3 A_4 A_5
  have lt_K := K.out.lt
  have K_0 := K.out.cell 0
  have K_1 := K.out.cell 1
  have K_2 := K.out.cell 2
  have K_3 := K.out.cell 3
  simp at K_0 K_1 K_2 K_3
  have szB_w1 := SB2h.out.size
  go_wp2_with fail
  refine (great_any ⟨ac0, ad0, ai0, at0, mc0, md0, mi0, mt0⟩ f _).mono ?_
  rintro e w2 ⟨⟨bg, rfl, hg⟩, bel2⟩
  clear hg
  clear lt_Fb Fb_0 Fb_1 Fb_2 Fb_3 Fb_4 Fb_5 lt_A A_0 A_1 A_2 A_3 A_4 A_5 lt_K K_0 K_1 K_2 K_3
  have t_Fb := Fb.out.below bel2
  clear Fb
  have Fb := Lib.hid t_Fb
  clear t_Fb
  have t_A := A.out.below bel2
  clear A
  have A := Lib.hid t_A
  clear t_A
  have t_K := K.out.below bel2
  clear K
  have K := Lib.hid t_K
  clear t_K
  have SB3 : Below w.heap.size w w2 := SB2h.out.trans (bel2.mono SB2h.out.size)
  clear SB2h
  have SB3h := Lib.hid SB3
  clear SB3 bel2
  have lt_Fb := Fb.out.lt
  have Fb_0 := Fb.out.cell 0
  have Fb_1 := Fb.out.cell 1
  have Fb_2 := Fb.out.cell 2
  have Fb_3 := Fb.out.cell 3
  have Fb_4 := Fb.out.cell 4
  have Fb_5 := Fb.out.cell 5
  simp at Fb_0 Fb_1 Fb_2 Fb_3 Fb_4 Fb_5
  have lt_A := A.out.lt
  have A_0 := A.out.cell 0
  have A_1 := A.out.cell 1
  have A_2 := A.out.cell 2
  have A_3 := A.out.cell 3
  have A_4 := A.out.cell 4
  have A_5 := A.out.cell 5
  simp at A_0 A_1 A_2 A_3 A_4 A_5
  have lt_K := K.out.lt
  have K_0 := K.out.cell 0
  have K_1 := K.out.cell 1
  have K_2 := K.out.cell 2
  have K_3 := K.out.cell 3
  simp at K_0 K_1 K_2 K_3
  have szB_w2 := SB3h.out.size
  by_cases hx : bg = true
  · subst hx
    go_wp2
    go_ret
    exact ⟨rfl, SB3h.out⟩
  have hx' : bg = false := by simpa using hx
  subst hx'
  clear hx
  go_wp2_with fail
  refine (check_any ⟨ac0, ad0, ai0, at0, mc0, md0, mi0, mt0⟩ f _ (HF.out.below SB3h.out)).mono ?_
  rintro e w3 ⟨⟨z, rfl, hz⟩, bel3⟩
  clear lt_Fb Fb_0 Fb_1 Fb_2 Fb_3 Fb_4 Fb_5 lt_A A_0 A_1 A_2 A_3 A_4 A_5 lt_K K_0 K_1 K_2 K_3
  have t_Fb := Fb.out.below bel3
  clear Fb
  have Fb := Lib.hid t_Fb
  clear t_Fb
  have t_A := A.out.below bel3
  clear A
  have A := Lib.hid t_A
  clear t_A
  have t_K := K.out.below bel3
  clear K
  have K := Lib.hid t_K
  clear t_K
  have SB4 : Below w.heap.size w w3 := SB3h.out.trans (bel3.mono SB3h.out.size)
  clear SB3h
  have SB4h := Lib.hid SB4
  clear SB4 bel3
  have lt_Fb := Fb.out.lt
  have Fb_0 := Fb.out.cell 0
  have Fb_1 := Fb.out.cell 1
  have Fb_2 := Fb.out.cell 2
  have Fb_3 := Fb.out.cell 3
  have Fb_4 := Fb.out.cell 4
  have Fb_5 := Fb.out.cell 5
  simp at Fb_0 Fb_1 Fb_2 Fb_3 Fb_4 Fb_5
  have lt_A := A.out.lt
  have A_0 := A.out.cell 0
  have A_1 := A.out.cell 1
  have A_2 := A.out.cell 2
  have A_3 := A.out.cell 3
  have A_4 := A.out.cell 4
  have A_5 := A.out.cell 5
  simp at A_0 A_1 A_2 A_3 A_4 A_5
  have lt_K := K.out.lt
  have K_0 := K.out.cell 0
  have K_1 := K.out.cell 1
  have K_2 := K.out.cell 2
  have K_3 := K.out.cell 3
  simp at K_0 K_1 K_2 K_3
  have szB_w3 := SB4h.out.size
  rcases hz with ⟨hm, rfl⟩ | ⟨hm, rfl⟩
  rotate_left
  · clear hm
    go_wp2
    go_ret
    exact ⟨rfl, SB4h.out⟩
  have Hm := Lib.hid hm
  clear hm
  obtain ⟨k, hk, kc, kd, ki, kt⟩ := FD.place Hm.out Hin.out
  have Hk := Lib.hid hk
  clear hk
  go_wp2_with fail
  refine (put_any ⟨ac0, ad0, ai0, at0, mc0, md0, mi0, mt0⟩ f x y d i t b u s c _ (HF.out.below SB4h.out)).mono ?_
  rintro e w4 ⟨⟨⟨ac1, ad1, ai1, at1, mc1, md1, mi1, mt1⟩, f1, x1, rfl, ho1, hv1⟩, bel4⟩
  dsimp only
  have O1 := Lib.hid ho1
  clear ho1
  clear lt_Fb Fb_0 Fb_1 Fb_2 Fb_3 Fb_4 Fb_5 lt_A A_0 A_1 A_2 A_3 A_4 A_5 lt_K K_0 K_1 K_2 K_3
  have t_Fb := Fb.out.below bel4
  clear Fb
  have Fb := Lib.hid t_Fb
  clear t_Fb
  have t_A := A.out.below bel4
  clear A
  have A := Lib.hid t_A
  clear t_A
  have t_K := K.out.below bel4
  clear K
  have K := Lib.hid t_K
  clear t_K
  have SB5 : Below w.heap.size w w4 := SB4h.out.trans (bel4.mono SB4h.out.size)
  clear SB4h
  have SB5h := Lib.hid SB5
  clear SB5 bel4
  have lt_Fb := Fb.out.lt
  have Fb_0 := Fb.out.cell 0
  have Fb_1 := Fb.out.cell 1
  have Fb_2 := Fb.out.cell 2
  have Fb_3 := Fb.out.cell 3
  have Fb_4 := Fb.out.cell 4
  have Fb_5 := Fb.out.cell 5
  simp at Fb_0 Fb_1 Fb_2 Fb_3 Fb_4 Fb_5
  have lt_A := A.out.lt
  have A_0 := A.out.cell 0
  have A_1 := A.out.cell 1
  have A_2 := A.out.cell 2
  have A_3 := A.out.cell 3
  have A_4 := A.out.cell 4
  have A_5 := A.out.cell 5
  simp at A_0 A_1 A_2 A_3 A_4 A_5
  have lt_K := K.out.lt
  have K_0 := K.out.cell 0
  have K_1 := K.out.cell 1
  have K_2 := K.out.cell 2
  have K_3 := K.out.cell 3
  simp at K_0 K_1 K_2 K_3
  have szB_w4 := SB5h.out.size
  obtain ⟨rfl, hf1⟩ := put_in Hm.out Hin.out Hs.out Hk.out hv1
  have HF1 := Lib.hid hf1
  clear hf1 hv1
  go_wp2_with fail
  have O1a := O1.out.below ((Below.refl w4.heap.size w4).alloc (Nat.le_refl _) (.cells #[.int .i64 f1.W, .int .i64 f1.H, .slice ac1 f1.nc mc1, .slice ad1 f1.nd md1, .slice ai1 f1.ni mi1, .slice at1 f1.nt mt1] 29))
  clear O1
  have NE_Fb_X := Lib.hid (show w.heap.size ≠ w4.heap.size by omega)
  have NE_A_X := Lib.hid (show w.heap.size + 1 ≠ w4.heap.size by omega)
  have NE_K_X := Lib.hid (show w.heap.size + 1 + 1 ≠ w4.heap.size by omega)
  have s_Fb := Fb.out
  have s_A := A.out
  have s_K := K.out
  replace s_Fb := s_Fb.alloc (.cells #[.int .i64 f1.W, .int .i64 f1.H, .slice ac1 f1.nc mc1, .slice ad1 f1.nd md1, .slice ai1 f1.ni mi1, .slice at1 f1.nt mt1] 29)
  replace s_A := s_A.alloc (.cells #[.int .i64 f1.W, .int .i64 f1.H, .slice ac1 f1.nc mc1, .slice ad1 f1.nd md1, .slice ai1 f1.ni mi1, .slice at1 f1.nt mt1] 29)
  replace s_K := s_K.alloc (.cells #[.int .i64 f1.W, .int .i64 f1.H, .slice ac1 f1.nc mc1, .slice ad1 f1.nd md1, .slice ai1 f1.ni mi1, .slice at1 f1.nt mt1] 29)
  have s_X : HasBlk (w4.alloc (.cells #[.int .i64 f1.W, .int .i64 f1.H, .slice ac1 f1.nc mc1, .slice ad1 f1.nd md1, .slice ai1 f1.ni mi1, .slice at1 f1.nt mt1] 29)) (w4.heap.size) 29 #[.int .i64 f1.W, .int .i64 f1.H, .slice ac1 f1.nc mc1, .slice ad1 f1.nd md1, .slice ai1 f1.ni mi1, .slice at1 f1.nt mt1] := by simpa using hasBlk_new w4 29 #[.int .i64 f1.W, .int .i64 f1.H, .slice ac1 f1.nc mc1, .slice ad1 f1.nd md1, .slice ai1 f1.ni mi1, .slice at1 f1.nt mt1]
  have t_Fb : HasBlk (w4.alloc (.cells #[.int .i64 f1.W, .int .i64 f1.H, .slice ac1 f1.nc mc1, .slice ad1 f1.nd md1, .slice ai1 f1.ni mi1, .slice at1 f1.nt mt1] 29)) (w.heap.size) 29 #[.int .i64 f.W, .int .i64 f.H, .slice ac0 f.nc mc0, .slice ad0 f.nd md0, .slice ai0 f.ni mi0, .slice at0 f.nt mt0] := by simpa using s_Fb
  clear s_Fb Fb
  have t_A : HasBlk (w4.alloc (.cells #[.int .i64 f1.W, .int .i64 f1.H, .slice ac1 f1.nc mc1, .slice ad1 f1.nd md1, .slice ai1 f1.ni mi1, .slice at1 f1.nt mt1] 29)) (w.heap.size + 1) 25 #[.int .i64 d, .int .i64 i, .int .i64 t, .int .i64 b, .int .i64 u, .int .i64 s] := by simpa using s_A
  clear s_A A
  have t_K : HasBlk (w4.alloc (.cells #[.int .i64 f1.W, .int .i64 f1.H, .slice ac1 f1.nc mc1, .slice ad1 f1.nd md1, .slice ai1 f1.ni mi1, .slice at1 f1.nt mt1] 29)) (w.heap.size + 1 + 1) 23 #[.int .u8 (c 0), .int .u8 (c 1), .int .u8 (c 2), .int .u8 (c 3)] := by simpa using s_K
  clear s_K K
  have t_X : HasBlk (w4.alloc (.cells #[.int .i64 f1.W, .int .i64 f1.H, .slice ac1 f1.nc mc1, .slice ad1 f1.nd md1, .slice ai1 f1.ni mi1, .slice at1 f1.nt mt1] 29)) (w4.heap.size) 29 #[.int .i64 f1.W, .int .i64 f1.H, .slice ac1 f1.nc mc1, .slice ad1 f1.nd md1, .slice ai1 f1.ni mi1, .slice at1 f1.nt mt1] := by simpa using s_X
  clear s_X
  have SB6 : Below w.heap.size w (w4.alloc (.cells #[.int .i64 f1.W, .int .i64 f1.H, .slice ac1 f1.nc mc1, .slice ad1 f1.nd md1, .slice ai1 f1.ni mi1, .slice at1 f1.nt mt1] 29)) := by
    have bel0 := SB5h.out
    repeat' (first | exact Below.refl _ _ | assumption | apply Below.drew | refine Below.setCell ?_ (by first | omega | (simp; done) | (simp; omega)) _ | refine Below.alloc ?_ (by first | omega | (simp; done) | (simp; omega)) _)
  clear lt_Fb Fb_0 Fb_1 Fb_2 Fb_3 Fb_4 Fb_5 lt_A A_0 A_1 A_2 A_3 A_4 A_5 lt_K K_0 K_1 K_2 K_3
  generalize gW_v1 : (w4.alloc (.cells #[.int .i64 f1.W, .int .i64 f1.H, .slice ac1 f1.nc mc1, .slice ad1 f1.nd md1, .slice ai1 f1.ni mi1, .slice at1 f1.nt mt1] 29)) = v1 at *
  clear gW_v1
  have Fb := Lib.hid t_Fb
  clear t_Fb
  have A := Lib.hid t_A
  clear t_A
  have K := Lib.hid t_K
  clear t_K
  have X := Lib.hid t_X
  clear t_X
  clear SB5h
  have SB6h := Lib.hid SB6
  clear SB6
  have O1 := Lib.hid O1a
  clear O1a
  have lt_Fb := Fb.out.lt
  have Fb_0 := Fb.out.cell 0
  have Fb_1 := Fb.out.cell 1
  have Fb_2 := Fb.out.cell 2
  have Fb_3 := Fb.out.cell 3
  have Fb_4 := Fb.out.cell 4
  have Fb_5 := Fb.out.cell 5
  simp at Fb_0 Fb_1 Fb_2 Fb_3 Fb_4 Fb_5
  have lt_A := A.out.lt
  have A_0 := A.out.cell 0
  have A_1 := A.out.cell 1
  have A_2 := A.out.cell 2
  have A_3 := A.out.cell 3
  have A_4 := A.out.cell 4
  have A_5 := A.out.cell 5
  simp at A_0 A_1 A_2 A_3 A_4 A_5
  have lt_K := K.out.lt
  have K_0 := K.out.cell 0
  have K_1 := K.out.cell 1
  have K_2 := K.out.cell 2
  have K_3 := K.out.cell 3
  simp at K_0 K_1 K_2 K_3
  have lt_X := X.out.lt
  have X_0 := X.out.cell 0
  have X_1 := X.out.cell 1
  have X_2 := X.out.cell 2
  have X_3 := X.out.cell 3
  have X_4 := X.out.cell 4
  have X_5 := X.out.cell 5
  simp at X_0 X_1 X_2 X_3 X_4 X_5
  have szB_v1 := SB6h.out.size
  refine (lay_frame ⟨ac0, ad0, ai0, at0, mc0, md0, mi0, mt0⟩ f x y e c _ (HF.out.below SB6h.out)).mono ?_
  rintro e w5 ⟨⟨⟨ac2, ad2, ai2, at2, mc2, md2, mi2, mt2⟩, f2, x2, rfl, ho2, hv2⟩, bel5⟩
  dsimp only
  have O2 := Lib.hid ho2
  clear ho2
  have O1a := O1.out.below bel5
  clear O1
  have O1 := Lib.hid O1a
  clear O1a
  clear lt_Fb Fb_0 Fb_1 Fb_2 Fb_3 Fb_4 Fb_5 lt_A A_0 A_1 A_2 A_3 A_4 A_5 lt_K K_0 K_1 K_2 K_3 lt_X X_0 X_1 X_2 X_3 X_4 X_5
  have t_Fb := Fb.out.below bel5
  clear Fb
  have Fb := Lib.hid t_Fb
  clear t_Fb
  have t_A := A.out.below bel5
  clear A
  have A := Lib.hid t_A
  clear t_A
  have t_K := K.out.below bel5
  clear K
  have K := Lib.hid t_K
  clear t_K
  have t_X := X.out.below bel5
  clear X
  have X := Lib.hid t_X
  clear t_X
  have SB7 : Below w.heap.size w w5 := SB6h.out.trans (bel5.mono SB6h.out.size)
  clear SB6h
  have SB7h := Lib.hid SB7
  clear SB7 bel5
  have lt_Fb := Fb.out.lt
  have Fb_0 := Fb.out.cell 0
  have Fb_1 := Fb.out.cell 1
  have Fb_2 := Fb.out.cell 2
  have Fb_3 := Fb.out.cell 3
  have Fb_4 := Fb.out.cell 4
  have Fb_5 := Fb.out.cell 5
  simp at Fb_0 Fb_1 Fb_2 Fb_3 Fb_4 Fb_5
  have lt_A := A.out.lt
  have A_0 := A.out.cell 0
  have A_1 := A.out.cell 1
  have A_2 := A.out.cell 2
  have A_3 := A.out.cell 3
  have A_4 := A.out.cell 4
  have A_5 := A.out.cell 5
  simp at A_0 A_1 A_2 A_3 A_4 A_5
  have lt_K := K.out.lt
  have K_0 := K.out.cell 0
  have K_1 := K.out.cell 1
  have K_2 := K.out.cell 2
  have K_3 := K.out.cell 3
  simp at K_0 K_1 K_2 K_3
  have lt_X := X.out.lt
  have X_0 := X.out.cell 0
  have X_1 := X.out.cell 1
  have X_2 := X.out.cell 2
  have X_3 := X.out.cell 3
  have X_4 := X.out.cell 4
  have X_5 := X.out.cell 5
  simp at X_0 X_1 X_2 X_3 X_4 X_5
  have szB_w5 := SB7h.out.size
  obtain ⟨rfl, hf2⟩ := lay_in Hm.out Hin.out Hd.out Hk.out hv2
  have HF2 := Lib.hid hf2
  clear hf2 hv2
  have hat := at_wrap Hm.out Hin.out Hk.out kd
  have hat2 := at_wrap64 Hm.out Hin.out Hk.out kd
  obtain ⟨hi0, hi1, hi2, hi3⟩ := Hin.out
  have e0 : decide (0 ≤ x) = true := decide_eq_true hi0
  have e1 : decide (x < f.W) = true := decide_eq_true hi1
  have e2 : decide (0 ≤ y) = true := decide_eq_true hi2
  have e3 : decide (y < f.H) = true := decide_eq_true hi3
  clear hi0 hi1 hi2 hi3
  go_upto_region 11 with fail
  have O1a := O1.out.below ((Below.refl w5.heap.size w5).alloc (Nat.le_refl _) (.cells #[.int .i64 f2.W, .int .i64 f2.H, .slice ac2 f2.nc mc2, .slice ad2 f2.nd md2, .slice ai2 f2.ni mi2, .slice at2 f2.nt mt2] 29))
  clear O1
  have O2a := O2.out.below ((Below.refl w5.heap.size w5).alloc (Nat.le_refl _) (.cells #[.int .i64 f2.W, .int .i64 f2.H, .slice ac2 f2.nc mc2, .slice ad2 f2.nd md2, .slice ai2 f2.ni mi2, .slice at2 f2.nt mt2] 29))
  clear O2
  have NE_Fb_Y := Lib.hid (show w.heap.size ≠ w5.heap.size by omega)
  have NE_A_Y := Lib.hid (show w.heap.size + 1 ≠ w5.heap.size by omega)
  have NE_K_Y := Lib.hid (show w.heap.size + 1 + 1 ≠ w5.heap.size by omega)
  have NE_X_Y := Lib.hid (show w4.heap.size ≠ w5.heap.size by omega)
  have s_Fb := Fb.out
  have s_A := A.out
  have s_K := K.out
  have s_X := X.out
  replace s_Fb := s_Fb.alloc (.cells #[.int .i64 f2.W, .int .i64 f2.H, .slice ac2 f2.nc mc2, .slice ad2 f2.nd md2, .slice ai2 f2.ni mi2, .slice at2 f2.nt mt2] 29)
  replace s_A := s_A.alloc (.cells #[.int .i64 f2.W, .int .i64 f2.H, .slice ac2 f2.nc mc2, .slice ad2 f2.nd md2, .slice ai2 f2.ni mi2, .slice at2 f2.nt mt2] 29)
  replace s_K := s_K.alloc (.cells #[.int .i64 f2.W, .int .i64 f2.H, .slice ac2 f2.nc mc2, .slice ad2 f2.nd md2, .slice ai2 f2.ni mi2, .slice at2 f2.nt mt2] 29)
  replace s_X := s_X.alloc (.cells #[.int .i64 f2.W, .int .i64 f2.H, .slice ac2 f2.nc mc2, .slice ad2 f2.nd md2, .slice ai2 f2.ni mi2, .slice at2 f2.nt mt2] 29)
  have s_Y : HasBlk (w5.alloc (.cells #[.int .i64 f2.W, .int .i64 f2.H, .slice ac2 f2.nc mc2, .slice ad2 f2.nd md2, .slice ai2 f2.ni mi2, .slice at2 f2.nt mt2] 29)) (w5.heap.size) 29 #[.int .i64 f2.W, .int .i64 f2.H, .slice ac2 f2.nc mc2, .slice ad2 f2.nd md2, .slice ai2 f2.ni mi2, .slice at2 f2.nt mt2] := by simpa using hasBlk_new w5 29 #[.int .i64 f2.W, .int .i64 f2.H, .slice ac2 f2.nc mc2, .slice ad2 f2.nd md2, .slice ai2 f2.ni mi2, .slice at2 f2.nt mt2]
  have t_Fb : HasBlk (w5.alloc (.cells #[.int .i64 f2.W, .int .i64 f2.H, .slice ac2 f2.nc mc2, .slice ad2 f2.nd md2, .slice ai2 f2.ni mi2, .slice at2 f2.nt mt2] 29)) (w.heap.size) 29 #[.int .i64 f.W, .int .i64 f.H, .slice ac0 f.nc mc0, .slice ad0 f.nd md0, .slice ai0 f.ni mi0, .slice at0 f.nt mt0] := by simpa using s_Fb
  clear s_Fb Fb
  have t_A : HasBlk (w5.alloc (.cells #[.int .i64 f2.W, .int .i64 f2.H, .slice ac2 f2.nc mc2, .slice ad2 f2.nd md2, .slice ai2 f2.ni mi2, .slice at2 f2.nt mt2] 29)) (w.heap.size + 1) 25 #[.int .i64 d, .int .i64 i, .int .i64 t, .int .i64 b, .int .i64 u, .int .i64 s] := by simpa using s_A
  clear s_A A
  have t_K : HasBlk (w5.alloc (.cells #[.int .i64 f2.W, .int .i64 f2.H, .slice ac2 f2.nc mc2, .slice ad2 f2.nd md2, .slice ai2 f2.ni mi2, .slice at2 f2.nt mt2] 29)) (w.heap.size + 1 + 1) 23 #[.int .u8 (c 0), .int .u8 (c 1), .int .u8 (c 2), .int .u8 (c 3)] := by simpa using s_K
  clear s_K K
  have t_X : HasBlk (w5.alloc (.cells #[.int .i64 f2.W, .int .i64 f2.H, .slice ac2 f2.nc mc2, .slice ad2 f2.nd md2, .slice ai2 f2.ni mi2, .slice at2 f2.nt mt2] 29)) (w4.heap.size) 29 #[.int .i64 f1.W, .int .i64 f1.H, .slice ac1 f1.nc mc1, .slice ad1 f1.nd md1, .slice ai1 f1.ni mi1, .slice at1 f1.nt mt1] := by simpa using s_X
  clear s_X X
  have t_Y : HasBlk (w5.alloc (.cells #[.int .i64 f2.W, .int .i64 f2.H, .slice ac2 f2.nc mc2, .slice ad2 f2.nd md2, .slice ai2 f2.ni mi2, .slice at2 f2.nt mt2] 29)) (w5.heap.size) 29 #[.int .i64 f2.W, .int .i64 f2.H, .slice ac2 f2.nc mc2, .slice ad2 f2.nd md2, .slice ai2 f2.ni mi2, .slice at2 f2.nt mt2] := by simpa using s_Y
  clear s_Y
  have SB8 : Below w.heap.size w (w5.alloc (.cells #[.int .i64 f2.W, .int .i64 f2.H, .slice ac2 f2.nc mc2, .slice ad2 f2.nd md2, .slice ai2 f2.ni mi2, .slice at2 f2.nt mt2] 29)) := by
    have bel0 := SB7h.out
    repeat' (first | exact Below.refl _ _ | assumption | apply Below.drew | refine Below.setCell ?_ (by first | omega | (simp; done) | (simp; omega)) _ | refine Below.alloc ?_ (by first | omega | (simp; done) | (simp; omega)) _)
  clear lt_Fb Fb_0 Fb_1 Fb_2 Fb_3 Fb_4 Fb_5 lt_A A_0 A_1 A_2 A_3 A_4 A_5 lt_K K_0 K_1 K_2 K_3 lt_X X_0 X_1 X_2 X_3 X_4 X_5
  generalize gW_v2 : (w5.alloc (.cells #[.int .i64 f2.W, .int .i64 f2.H, .slice ac2 f2.nc mc2, .slice ad2 f2.nd md2, .slice ai2 f2.ni mi2, .slice at2 f2.nt mt2] 29)) = v2 at *
  clear gW_v2
  have Fb := Lib.hid t_Fb
  clear t_Fb
  have A := Lib.hid t_A
  clear t_A
  have K := Lib.hid t_K
  clear t_K
  have X := Lib.hid t_X
  clear t_X
  have Y := Lib.hid t_Y
  clear t_Y
  clear SB7h
  have SB8h := Lib.hid SB8
  clear SB8
  have O1 := Lib.hid O1a
  clear O1a
  have O2 := Lib.hid O2a
  clear O2a
  have lt_Fb := Fb.out.lt
  have Fb_0 := Fb.out.cell 0
  have Fb_1 := Fb.out.cell 1
  have Fb_2 := Fb.out.cell 2
  have Fb_3 := Fb.out.cell 3
  have Fb_4 := Fb.out.cell 4
  have Fb_5 := Fb.out.cell 5
  simp at Fb_0 Fb_1 Fb_2 Fb_3 Fb_4 Fb_5
  have lt_A := A.out.lt
  have A_0 := A.out.cell 0
  have A_1 := A.out.cell 1
  have A_2 := A.out.cell 2
  have A_3 := A.out.cell 3
  have A_4 := A.out.cell 4
  have A_5 := A.out.cell 5
  simp at A_0 A_1 A_2 A_3 A_4 A_5
  have lt_K := K.out.lt
  have K_0 := K.out.cell 0
  have K_1 := K.out.cell 1
  have K_2 := K.out.cell 2
  have K_3 := K.out.cell 3
  simp at K_0 K_1 K_2 K_3
  have lt_X := X.out.lt
  have X_0 := X.out.cell 0
  have X_1 := X.out.cell 1
  have X_2 := X.out.cell 2
  have X_3 := X.out.cell 3
  have X_4 := X.out.cell 4
  have X_5 := X.out.cell 5
  simp at X_0 X_1 X_2 X_3 X_4 X_5
  have lt_Y := Y.out.lt
  have Y_0 := Y.out.cell 0
  have Y_1 := Y.out.cell 1
  have Y_2 := Y.out.cell 2
  have Y_3 := Y.out.cell 3
  have Y_4 := Y.out.cell 4
  have Y_5 := Y.out.cell 5
  simp at Y_0 Y_1 Y_2 Y_3 Y_4 Y_5
  have szB_v2 := SB8h.out.size
  obtain ⟨en1, en2, en3⟩ : f.nc = f.nd ∧ f.ni = f.nd ∧ f.nt = f.nd := by have := Hm.out.2.1; omega
  have Hn := Lib.hid (And.intro en1 (And.intro en2 en3))
  clear en1 en2 en3
  have OKf := Lib.hid (HF.out.below SB8h.out)
  have OK1 := Lib.hid O1.out.ok
  have OK2 := Lib.hid O2.out.ok
  go_wp2
  go_loopw [19] (fun a wr => ∃ j : Nat, j ≤ f.nd ∧ a = .int .i64 j ∧ ∃ q, wr = v2.drewN q) (fun a wr => f.nd - (intOf a).toNat)
  case atStart => exact ⟨0, Nat.zero_le _, rfl, 0, rfl⟩
  case round =>
    obtain ⟨j, hj, rfl, q, rfl⟩ := hrel
    have hbn := Hbd.out.2.1
    clear lt_Fb Fb_0 Fb_1 Fb_2 Fb_3 Fb_4 Fb_5 lt_A A_0 A_1 A_2 A_3 A_4 A_5 lt_K K_0 K_1 K_2 K_3 lt_X X_0 X_1 X_2 X_3 X_4 X_5 lt_Y Y_0 Y_1 Y_2 Y_3 Y_4 Y_5
    have Fb_2 := Fb.out.cell 2
    have Fb_3 := Fb.out.cell 3
    have Fb_4 := Fb.out.cell 4
    have Fb_5 := Fb.out.cell 5
    simp at Fb_2 Fb_3 Fb_4 Fb_5
    by_cases hjn : j < f.nd
    · have gj : decide ((j : Int) < (f.nd : Int)) = true := decide_eq_true (by omega)
      have hj0 : (0 : Int) ≤ (j : Int) := by omega
      have hj1 : (j : Int) < (f.nd : Int) := by omega
      obtain ⟨en1, en2, en3⟩ := Hn.out
      have hj2 : (j : Int) < (f.nc : Int) := by omega
      have hj3 : (j : Int) < (f.ni : Int) := by omega
      have hj4 : (j : Int) < (f.nt : Int) := by omega
      clear en1 en2 en3
      obtain ⟨hC, hD, hI, hT⟩ := OKf.out
      dsimp only at hC hD hI hT
      obtain ⟨gc, oc, rfl, lc, rC⟩ := hC (by omega)
      obtain ⟨gd, od, rfl, ld, rD⟩ := hD (by omega)
      obtain ⟨gi, oi, rfl, li, rI⟩ := hI (by omega)
      obtain ⟨gt, ot, rfl, lt, rT⟩ := hT (by omega)
      dsimp only at rC
      have c0 := rC j (by omega) 0 (by omega)
      have c1 := rC j (by omega) 1 (by omega)
      have c2 := rC j (by omega) 2 (by omega)
      have c3 := rC j (by omega) 3 (by omega)
      have cd := rD j (by omega)
      have ci := rI j (by omega)
      have ct := rT j (by omega)
      simp only [Nat.add_zero] at c0
      clear rC rD rI rT hC hD hI hT lc ld li lt
      by_cases hjk : j = k
      · have gk : ((j : Int) != (k : Int)) = false := by simp [hjk]
        have gk' : decide ((j : Int) = (k : Int)) = true := by simp [hjk]
        clear hjk
        have X_2 := X.out.cell 2
        have X_3 := X.out.cell 3
        have X_4 := X.out.cell 4
        have X_5 := X.out.cell 5
        simp at X_2 X_3 X_4 X_5
        obtain ⟨m1, m2, m3, m4⟩ : f1.nc = f.nc ∧ f1.nd = f.nd ∧ f1.ni = f.ni ∧ f1.nt = f.nt := by rw [HF1.out]; exact ⟨(FD.put_W f k d i t c).2.2.1, (FD.put_W f k d i t c).2.2.2.1, (FD.put_W f k d i t c).2.2.2.2.1, (FD.put_W f k d i t c).2.2.2.2.2⟩
        have i11 : (j : Int) < (f1.nd : Int) := by omega
        have i12 : (j : Int) < (f1.nc : Int) := by omega
        have i13 : (j : Int) < (f1.ni : Int) := by omega
        have i14 : (j : Int) < (f1.nt : Int) := by omega
        obtain ⟨hC, hD, hI, hT⟩ := OK1.out
        dsimp only at hC hD hI hT
        obtain ⟨gc1, oc1, rfl, lc1, rC⟩ := hC (by omega)
        obtain ⟨gd1, od1, rfl, ld1, rD⟩ := hD (by omega)
        obtain ⟨gi1, oi1, rfl, li1, rI⟩ := hI (by omega)
        obtain ⟨gt1, ot1, rfl, lt1, rT⟩ := hT (by omega)
        dsimp only at rC
        have a10 := rC j (by omega) 0 (by omega)
        have a11 := rC j (by omega) 1 (by omega)
        have a12 := rC j (by omega) 2 (by omega)
        have a13 := rC j (by omega) 3 (by omega)
        have a1d := rD j (by omega)
        have a1i := rI j (by omega)
        have a1t := rT j (by omega)
        simp only [Nat.add_zero] at a10
        clear rC rD rI rT hC hD hI hT m1 m2 m3 m4 lc1 ld1 li1 lt1
        have gd1 : decide (f1.D j < f.D j) = false := decide_eq_false (by have := put_depth Hm.out c kd Hs.out j; rw [HF1.out]; omega)
        go_wp2_with fail
        refine wp_region_quiet_lit (by kernel_rfl) (lex14_of (by kernel_rfl)) ?_
        try simp only [List.append_eq, List.cons_append, List.nil_append]
        repeat (go_big_quiet_step (fail))
        refine wpQuiet_nil ?_
        intro _ hw'
        obtain ⟨nq, hw''⟩ := hw'
        subst hw''
        clear a10 a11 a12 a13 a1d a1i a1t i11 i12 i13 i14 X_2 X_3 X_4 X_5 gd1
        have Y_2 := Y.out.cell 2
        have Y_3 := Y.out.cell 3
        have Y_4 := Y.out.cell 4
        have Y_5 := Y.out.cell 5
        simp at Y_2 Y_3 Y_4 Y_5
        obtain ⟨m1, m2, m3, m4⟩ : f2.nc = f.nc ∧ f2.nd = f.nd ∧ f2.ni = f.ni ∧ f2.nt = f.nt := by rw [HF2.out]; exact ⟨(lay_W f k e c).2.2.1, (lay_W f k e c).2.2.2.1, (lay_W f k e c).2.2.2.2.1, (lay_W f k e c).2.2.2.2.2⟩
        have i21 : (j : Int) < (f2.nd : Int) := by omega
        have i22 : (j : Int) < (f2.nc : Int) := by omega
        have i23 : (j : Int) < (f2.ni : Int) := by omega
        have i24 : (j : Int) < (f2.nt : Int) := by omega
        obtain ⟨hC, hD, hI, hT⟩ := OK2.out
        dsimp only at hC hD hI hT
        obtain ⟨gc2, oc2, rfl, lc2, rC⟩ := hC (by omega)
        obtain ⟨gd2, od2, rfl, ld2, rD⟩ := hD (by omega)
        obtain ⟨gi2, oi2, rfl, li2, rI⟩ := hI (by omega)
        obtain ⟨gt2, ot2, rfl, lt2, rT⟩ := hT (by omega)
        dsimp only at rC
        have a20 := rC j (by omega) 0 (by omega)
        have a21 := rC j (by omega) 1 (by omega)
        have a22 := rC j (by omega) 2 (by omega)
        have a23 := rC j (by omega) 3 (by omega)
        have a2d := rD j (by omega)
        have a2i := rI j (by omega)
        have a2t := rT j (by omega)
        simp only [Nat.add_zero] at a20
        clear rC rD rI rT hC hD hI hT m1 m2 m3 m4 lc2 ld2 li2 lt2
        have le := lay_rest f k e c j
        have ge1 : (f2.D j != f.D j) = false := by rw [HF2.out]; simpa using le.1
        have ge2 : (f2.I j != f.I j) = false := by rw [HF2.out]; simpa using le.2.1
        have ge3 : (f2.T j != f.T j) = false := by rw [HF2.out]; simpa using le.2.2.1
        have ge1' : decide (f2.D j = f.D j) = true := by rw [HF2.out]; simpa using le.1
        have ge2' : decide (f2.I j = f.I j) = true := by rw [HF2.out]; simpa using le.2.1
        have ge3' : decide (f2.T j = f.T j) = true := by rw [HF2.out]; simpa using le.2.2.1
        clear le
        go_wp2_with fail
        refine wp_region_quiet_lit (by kernel_rfl) (lex16_of (by kernel_rfl)) ?_
        try simp only [List.append_eq, List.cons_append, List.nil_append]
        repeat (go_big_quiet_step (fail))
        refine wpQuiet_nil ?_
        intro _ hw'
        obtain ⟨nq', hw''⟩ := hw'
        subst hw''
        go_wp2
        go_roundw
        case rel => exact ⟨j + 1, by omega, by go_num, _, rfl⟩
        case measure => simp [intOf]; omega
      · have gk : ((j : Int) != (k : Int)) = true := by simp; omega
        have gk' : decide ((j : Int) = (k : Int)) = false := by simp; omega
        have hq := fun W => equalIn_of_eql (eql_col (f.C j 0) (f.C j 1) (f.C j 2) (f.C j 3) (f.C j 0) (f.C j 1) (f.C j 2) (f.C j 3) W)
        simp only [beq_self_eq_true, Bool.and_self] at hq
        have X_2 := X.out.cell 2
        have X_3 := X.out.cell 3
        have X_4 := X.out.cell 4
        have X_5 := X.out.cell 5
        simp at X_2 X_3 X_4 X_5
        obtain ⟨m1, m2, m3, m4⟩ : f1.nc = f.nc ∧ f1.nd = f.nd ∧ f1.ni = f.ni ∧ f1.nt = f.nt := by rw [HF1.out]; exact ⟨(FD.put_W f k d i t c).2.2.1, (FD.put_W f k d i t c).2.2.2.1, (FD.put_W f k d i t c).2.2.2.2.1, (FD.put_W f k d i t c).2.2.2.2.2⟩
        have i11 : (j : Int) < (f1.nd : Int) := by omega
        have i12 : (j : Int) < (f1.nc : Int) := by omega
        have i13 : (j : Int) < (f1.ni : Int) := by omega
        have i14 : (j : Int) < (f1.nt : Int) := by omega
        obtain ⟨hC, hD, hI, hT⟩ := OK1.out
        dsimp only at hC hD hI hT
        obtain ⟨gc1, oc1, rfl, lc1, rC⟩ := hC (by omega)
        obtain ⟨gd1, od1, rfl, ld1, rD⟩ := hD (by omega)
        obtain ⟨gi1, oi1, rfl, li1, rI⟩ := hI (by omega)
        obtain ⟨gt1, ot1, rfl, lt1, rT⟩ := hT (by omega)
        dsimp only at rC
        have a10 := rC j (by omega) 0 (by omega)
        have a11 := rC j (by omega) 1 (by omega)
        have a12 := rC j (by omega) 2 (by omega)
        have a13 := rC j (by omega) 3 (by omega)
        have a1d := rD j (by omega)
        have a1i := rI j (by omega)
        have a1t := rT j (by omega)
        simp only [Nat.add_zero] at a10
        clear rC rD rI rT hC hD hI hT m1 m2 m3 m4 lc1 ld1 li1 lt1
        have pe := put_else (f := f) (d := d) (i := i) (t := t) c hjk
        have gd1 : decide (f1.D j < f.D j) = false := decide_eq_false (by rw [HF1.out, pe.1]; omega)
        have gp1 : (f1.D j != f.D j) = false := by rw [HF1.out]; simpa using pe.1
        have gp2 : (f1.I j != f.I j) = false := by rw [HF1.out]; simpa using pe.2.1
        have gp3 : (f1.T j != f.T j) = false := by rw [HF1.out]; simpa using pe.2.2.1
        have gp1' : decide (f1.D j = f.D j) = true := by rw [HF1.out]; simpa using pe.1
        have gp2' : decide (f1.I j = f.I j) = true := by rw [HF1.out]; simpa using pe.2.1
        have gp3' : decide (f1.T j = f.T j) = true := by rw [HF1.out]; simpa using pe.2.2.1
        have gp4 : f1.C j = f.C j := by rw [HF1.out]; exact pe.2.2.2
        rw [gp4] at a10 a11 a12 a13
        clear pe gp4
        go_wp2_with fail
        refine wp_region_quiet_lit (by kernel_rfl) (lex14_of (by kernel_rfl)) ?_
        try simp only [List.append_eq, List.cons_append, List.nil_append]
        repeat (go_big_quiet_step (fail))
        refine wpQuiet_nil ?_
        intro _ hw'
        obtain ⟨nq, hw''⟩ := hw'
        subst hw''
        clear a10 a11 a12 a13 a1d a1i a1t i11 i12 i13 i14 X_2 X_3 X_4 X_5 gd1 gp1 gp2 gp3 gp1' gp2' gp3'
        have Y_2 := Y.out.cell 2
        have Y_3 := Y.out.cell 3
        have Y_4 := Y.out.cell 4
        have Y_5 := Y.out.cell 5
        simp at Y_2 Y_3 Y_4 Y_5
        obtain ⟨m1, m2, m3, m4⟩ : f2.nc = f.nc ∧ f2.nd = f.nd ∧ f2.ni = f.ni ∧ f2.nt = f.nt := by rw [HF2.out]; exact ⟨(lay_W f k e c).2.2.1, (lay_W f k e c).2.2.2.1, (lay_W f k e c).2.2.2.2.1, (lay_W f k e c).2.2.2.2.2⟩
        have i21 : (j : Int) < (f2.nd : Int) := by omega
        have i22 : (j : Int) < (f2.nc : Int) := by omega
        have i23 : (j : Int) < (f2.ni : Int) := by omega
        have i24 : (j : Int) < (f2.nt : Int) := by omega
        obtain ⟨hC, hD, hI, hT⟩ := OK2.out
        dsimp only at hC hD hI hT
        obtain ⟨gc2, oc2, rfl, lc2, rC⟩ := hC (by omega)
        obtain ⟨gd2, od2, rfl, ld2, rD⟩ := hD (by omega)
        obtain ⟨gi2, oi2, rfl, li2, rI⟩ := hI (by omega)
        obtain ⟨gt2, ot2, rfl, lt2, rT⟩ := hT (by omega)
        dsimp only at rC
        have a20 := rC j (by omega) 0 (by omega)
        have a21 := rC j (by omega) 1 (by omega)
        have a22 := rC j (by omega) 2 (by omega)
        have a23 := rC j (by omega) 3 (by omega)
        have a2d := rD j (by omega)
        have a2i := rI j (by omega)
        have a2t := rT j (by omega)
        simp only [Nat.add_zero] at a20
        clear rC rD rI rT hC hD hI hT m1 m2 m3 m4 lc2 ld2 li2 lt2
        have le := lay_rest f k e c j
        have ge1 : (f2.D j != f.D j) = false := by rw [HF2.out]; simpa using le.1
        have ge2 : (f2.I j != f.I j) = false := by rw [HF2.out]; simpa using le.2.1
        have ge3 : (f2.T j != f.T j) = false := by rw [HF2.out]; simpa using le.2.2.1
        have ge1' : decide (f2.D j = f.D j) = true := by rw [HF2.out]; simpa using le.1
        have ge2' : decide (f2.I j = f.I j) = true := by rw [HF2.out]; simpa using le.2.1
        have ge3' : decide (f2.T j = f.T j) = true := by rw [HF2.out]; simpa using le.2.2.1
        have ge4 : f2.C j = f.C j := by rw [HF2.out]; exact le.2.2.2 hjk
        rw [ge4] at a20 a21 a22 a23
        clear le ge4
        clear hjk
        go_wp2_with fail
        refine wp_region_quiet_lit (by kernel_rfl) (lex16_of (by kernel_rfl)) ?_
        try simp only [List.append_eq, List.cons_append, List.nil_append]
        repeat (go_big_quiet_step (fail))
        refine wpQuiet_nil ?_
        intro _ hw'
        obtain ⟨nq', hw''⟩ := hw'
        subst hw''
        go_wp2
        go_roundw
        case rel => exact ⟨j + 1, by omega, by go_num, _, rfl⟩
        case measure => simp [intOf]; omega
    · obtain rfl : j = f.nd := by omega
      clear hj hjn
      have HB2 := Lib.hid (below_drewN SB8h.out q)
      clear Fb_2 Fb_3 Fb_4 Fb_5
      have t_Fb := HasBlk.drewN Fb.out q
      have t_A := HasBlk.drewN A.out q
      have t_X := HasBlk.drewN X.out q
      have t_Y := HasBlk.drewN Y.out q
      have t_f := OKf.out.drewN q
      have t_1 := OK1.out.drewN q
      have t_2 := OK2.out.drewN q
      have HB2a := HB2.out
      clear HB2
      generalize v2.drewN q = v3 at *
      have Fb3 := Lib.hid t_Fb
      clear t_Fb
      have A3 := Lib.hid t_A
      clear t_A
      have X3 := Lib.hid t_X
      clear t_X
      have Y3 := Lib.hid t_Y
      clear t_Y
      have OKf3 := Lib.hid t_f
      have OK13 := Lib.hid t_1
      have OK23 := Lib.hid t_2
      have HB3 := Lib.hid HB2a
      clear t_f t_1 t_2 HB2a
      have lt3_Fb := Fb3.out.lt
      have Fb3_0 := Fb3.out.cell 0
      have Fb3_1 := Fb3.out.cell 1
      have Fb3_2 := Fb3.out.cell 2
      have Fb3_3 := Fb3.out.cell 3
      have Fb3_4 := Fb3.out.cell 4
      have Fb3_5 := Fb3.out.cell 5
      simp at Fb3_0 Fb3_1 Fb3_2 Fb3_3 Fb3_4 Fb3_5
      have lt3_A := A3.out.lt
      have A3_0 := A3.out.cell 0
      have A3_1 := A3.out.cell 1
      have A3_2 := A3.out.cell 2
      have A3_3 := A3.out.cell 3
      have A3_4 := A3.out.cell 4
      have A3_5 := A3.out.cell 5
      simp at A3_0 A3_1 A3_2 A3_3 A3_4 A3_5
      have lt3_X := X3.out.lt
      have X3_0 := X3.out.cell 0
      have X3_1 := X3.out.cell 1
      have X3_2 := X3.out.cell 2
      have X3_3 := X3.out.cell 3
      have X3_4 := X3.out.cell 4
      have X3_5 := X3.out.cell 5
      simp at X3_0 X3_1 X3_2 X3_3 X3_4 X3_5
      have lt3_Y := Y3.out.lt
      have Y3_0 := Y3.out.cell 0
      have Y3_1 := Y3.out.cell 1
      have Y3_2 := Y3.out.cell 2
      have Y3_3 := Y3.out.cell 3
      have Y3_4 := Y3.out.cell 4
      have Y3_5 := Y3.out.cell 5
      simp at Y3_0 Y3_1 Y3_2 Y3_3 Y3_4 Y3_5
      have gk0 : decide ((k : Int) < 0) = false := decide_eq_false (by omega)
      have hk0 : (0 : Int) ≤ (k : Int) := by omega
      have hkd : (k : Int) < (f.nd : Int) := by omega
      have hki : (k : Int) < (f.ni : Int) := by omega
      go_wp2_with fail
      obtain ⟨hC, hD, hI, hT⟩ := OKf3.out
      dsimp only at hC hD hI hT
      obtain ⟨gd, od, rfl, ld, rD⟩ := hD (by omega)
      obtain ⟨gi, oi, rfl, li, rI⟩ := hI (by omega)
      have xd_ := rD k (by omega)
      have xi_ := rI k (by omega)
      clear hC hD hI hT rD rI
      have pxd := fun b : BW v3 => BW.cell xd_ ld b
      have pxi := fun b : BW v3 => BW.cell xi_ li b
      obtain ⟨m1, m2, m3, m4⟩ : f1.nc = f.nc ∧ f1.nd = f.nd ∧ f1.ni = f.ni ∧ f1.nt = f.nt := by rw [HF1.out]; exact ⟨(FD.put_W f k d i t c).2.2.1, (FD.put_W f k d i t c).2.2.2.1, (FD.put_W f k d i t c).2.2.2.2.1, (FD.put_W f k d i t c).2.2.2.2.2⟩
      have hk1 : (k : Int) < (f1.nd : Int) := by omega
      obtain ⟨_, hD, _, _⟩ := OK13.out
      dsimp only at hD
      obtain ⟨gd1, od1, rfl, ld1, rD⟩ := hD (by omega)
      have xd1_ := rD k (by omega)
      have pxd1 := fun b : BW v3 => BW.cell xd1_ ld1 b
      clear hD rD m1 m2 m3 m4
      have ga : decide (f1.D k < d) = false := decide_eq_false (by have := put_at (f := f) (k := k) (d := d) (i := i) (t := t) c; rw [HF1.out]; omega)
      have kc1 := Lib.hid (fun bw : BW v3 => BW.call (v := .int .i64 0) (fun W' (h : Below v3.heap.size v3 W') => (check_any _ f1 W' (OK13.out.below h)).mono (fun e' w' ⟨⟨z, he, hz⟩, hb⟩ => ⟨by rw [he]; rcases hz with ⟨_, rfl⟩ | ⟨hz, _⟩; rfl; exact absurd (by rw [HF1.out]; exact Hm.out.put Hs.out k c) hz, hb⟩)) bw)
      have kc2 := Lib.hid (fun bw : BW v3 => BW.call (v := .int .i64 0) (fun W' (h : Below v3.heap.size v3 W') => (check_any _ f2 W' (OK23.out.below h)).mono (fun e' w' ⟨⟨z, he, hz⟩, hb⟩ => ⟨by rw [he]; rcases hz with ⟨_, rfl⟩ | ⟨hz, _⟩; rfl; exact absurd (by rw [HF2.out]; exact Hm.out.lay k e c) hz, hb⟩)) bw)
      have pp_Fb0 := fun b : BW v3 => BW.cell Fb3_0 lt3_Fb b
      have pp_Fb1 := fun b : BW v3 => BW.cell Fb3_1 lt3_Fb b
      have pp_Fb2 := fun b : BW v3 => BW.cell Fb3_2 lt3_Fb b
      have pp_Fb3 := fun b : BW v3 => BW.cell Fb3_3 lt3_Fb b
      have pp_Fb4 := fun b : BW v3 => BW.cell Fb3_4 lt3_Fb b
      have pp_Fb5 := fun b : BW v3 => BW.cell Fb3_5 lt3_Fb b
      have pp_A0 := fun b : BW v3 => BW.cell A3_0 lt3_A b
      have pp_A1 := fun b : BW v3 => BW.cell A3_1 lt3_A b
      have pp_A2 := fun b : BW v3 => BW.cell A3_2 lt3_A b
      have pp_A3 := fun b : BW v3 => BW.cell A3_3 lt3_A b
      have pp_A4 := fun b : BW v3 => BW.cell A3_4 lt3_A b
      have pp_A5 := fun b : BW v3 => BW.cell A3_5 lt3_A b
      have pp_X0 := fun b : BW v3 => BW.cell X3_0 lt3_X b
      have pp_X1 := fun b : BW v3 => BW.cell X3_1 lt3_X b
      have pp_X2 := fun b : BW v3 => BW.cell X3_2 lt3_X b
      have pp_X3 := fun b : BW v3 => BW.cell X3_3 lt3_X b
      have pp_X4 := fun b : BW v3 => BW.cell X3_4 lt3_X b
      have pp_X5 := fun b : BW v3 => BW.cell X3_5 lt3_X b
      have pp_Y0 := fun b : BW v3 => BW.cell Y3_0 lt3_Y b
      have pp_Y1 := fun b : BW v3 => BW.cell Y3_1 lt3_Y b
      have pp_Y2 := fun b : BW v3 => BW.cell Y3_2 lt3_Y b
      have pp_Y3 := fun b : BW v3 => BW.cell Y3_3 lt3_Y b
      have pp_Y4 := fun b : BW v3 => BW.cell Y3_4 lt3_Y b
      have pp_Y5 := fun b : BW v3 => BW.cell Y3_5 lt3_Y b
      clear Fb3_0 Fb3_1 Fb3_2 Fb3_3 Fb3_4 Fb3_5 A3_0 A3_1 A3_2 A3_3 A3_4 A3_5 X3_0 X3_1 X3_2 X3_3 X3_4 X3_5 Y3_0 Y3_1 Y3_2 Y3_3 Y3_4 Y3_5 lt3_Fb lt3_A lt3_X lt3_Y
      refine wp_region_quiet_bw (by kernel_rfl) (by kernel_rfl) ?_
      repeat (go_big_quiet_step ((go_at_call 24; with_reducible exact kc1.out _)))
      refine wpQuiet_nil ?_
      intro _ hw'
      obtain ⟨pq, hw''⟩ := hw'
      subst hw''
      by_cases gD : f.D k < e
      · have gd_ : decide (f.D k < e) = true := decide_eq_true gD
        clear gD
        go_wp2_with (first | (go_at_call 24; (with_reducible refine (kc2.out _).mono ?_); rintro e' w' ⟨rfl, bq, rfl⟩))
        go_ret
        exact ⟨rfl, HB3.out.trans ((BW.h _).mono HB3.out.size)⟩
      have gd_ : decide (f.D k < e) = false := decide_eq_false gD
      by_cases gI : f.I k < 0
      · have gi_ : decide (f.I k < 0) = true := decide_eq_true gI
        clear gD gI
        go_wp2_with (first | (go_at_call 24; (with_reducible refine (kc2.out _).mono ?_); rintro e' w' ⟨rfl, bq, rfl⟩))
        go_ret
        exact ⟨rfl, HB3.out.trans ((BW.h _).mono HB3.out.size)⟩
      have gi_ : decide (f.I k < 0) = false := decide_eq_false gI
      have e2 : f2 = f := by rw [HF2.out]; exact lay_same c (fun z => by rcases z with z | z; exact gI z; exact gD z)
      have ks := Lib.hid (fun bw : BW v3 => BW.call (v := .bool true) (fun W' (h : Below v3.heap.size v3 W') => (same_any _ _ f2 f W' (OK23.out.below h) (OKf3.out.below h) (by rw [e2]; exact Hbd.out)).mono (fun e' w' ⟨hx, hb⟩ => ⟨hx.tt (by rw [e2]; exact FD.Same.refl f), hb⟩)) bw)
      clear gD gI e2
      go_wp2_with (first | (go_at_call 24; (with_reducible refine (kc2.out _).mono ?_); rintro e' w' ⟨rfl, bq, rfl⟩) | (go_at_call 26; (with_reducible refine (ks.out _).mono ?_); rintro e' w' ⟨rfl, bq2, rfl⟩))
      go_ret
      exact ⟨rfl, HB3.out.trans ((BW.h _).mono HB3.out.size)⟩
end Go.Proofs.Ytibeoeooajelgaa
