/- the reference: a fragment is put, a colour is laid, in a frame of one's own. -/
import Derived.Test.YtibeoeooajelgaaF33
import Derived.Test.YtibeoeooajelgaaF18
import Derived.Test.YtibeoeooajelgaaF19
import Derived.Deep.CutRange
import Derived.Deep.DeepCutAuto
namespace Go.Proofs.Ytibeoeooajelgaa
open Go.RowKit
set_option linter.unusedVariables false
theorem refover_ovc {c u : Nat → Int} (hc : Byte (c 3)) (hu : Byte (u 3)) (w : World) : Calls Try.prog 80 #[.agg #[.int .u8 (c 0), .int .u8 (c 1), .int .u8 (c 2), .int .u8 (c 3)], .agg #[.int .u8 (u 0), .int .u8 (u 1), .int .u8 (u 2), .int .u8 (u 3)]] w fun e w' =>
    e = .returned (.agg #[.int .u8 (ovc c u 0), .int .u8 (ovc c u 1), .int .u8 (ovc c u 2), .int .u8 (ovc c u 3)]) ∧ Below w.heap.size w w' := by
  have h := refover_raw (c 0) (c 1) (c 2) (c 3) (u 0) (u 1) (u 2) (u 3) w
  rw [rraw3_eq hc hu, ← lraw_eq hc (x := 255) (by unfold Byte; omega) hu] at h
  exact h
theorem own_ne_fr {B : Nat} {w : World} {f : FD} {xc xd xi xt kc kd ki kt : Nat} (h : FOwn B w ⟨(some ⟨xc, 0, none⟩), (some ⟨xd, 0, none⟩), (some ⟨xi, 0, none⟩), (some ⟨xt, 0, none⟩), kc, kd, ki, kt⟩ f) {g : Nat} {cs : Array Value} (hg : HasBlk w g 29 cs) : xc ≠ g ∧ xd ≠ g ∧ xi ≠ g ∧ xt ≠ g := by
  obtain ⟨h1, h2, h3, h4, _⟩ := h
  have a1 := hg.ne_own h1 (by decide)
  have a2 := hg.ne_own h2 (by decide)
  have a3 := hg.ne_own h3 (by decide)
  have a4 := hg.ne_own h4 (by decide)
  simp [Value.ownBlock] at a1 a2 a3 a4
  exact ⟨a1, a2, a3, a4⟩

set_option maxRecDepth 100000 in
set_option maxHeartbeats 8000000 in
theorem set_any (p : FP) (f : FD) (x y d i t p9 u v : Int) (c : Nat → Int) (k B : Nat) (w : World) (h : FOwn B w p f) (hB : B ≤ w.heap.size) (hm : f.May) (hi : f.In x y) (hk : y * f.W + x = k) (hl : k < f.nc ∧ k < f.nd ∧ k < f.ni ∧ k < f.nt) : Calls Try.prog 59 #[.agg #[.int .i64 f.W, .int .i64 f.H, .slice p.ac f.nc p.kc, .slice p.ad f.nd p.kd, .slice p.ai f.ni p.ki, .slice p.a4 f.nt p.kt], .int .i64 x, .int .i64 y, .agg #[.int .i64 d, .int .i64 i, .int .i64 t, .int .i64 p9, .int .i64 u, .int .i64 v], .agg #[.int .u8 (c 0), .int .u8 (c 1), .int .u8 (c 2), .int .u8 (c 3)]] w fun e w' => e = .returned (.tuple #[]) ∧ FOwn B w' p (f.put k d i t c) ∧ Below B w w' ∧ ∀ g cs, HasBlk w g 29 cs → HasBlk w' g 29 cs := by
  obtain ⟨W, H, nc, nd, ni, nt, C, D, I, T⟩ := f
  obtain ⟨ac, ad, ai, a4, kc, kd, ki, kt⟩ := p
  obtain ⟨qk1, qk2, qk3, qk4⟩ := hl
  obtain ⟨xc, xd, xi, xt, ⟨rfl, rfl, rfl, rfl⟩, hge, hlt0, _, _⟩ := FOwn.store h qk1 qk2 qk3 qk4
  have hq1 := at_wrap hm hi hk qk2
  have hq2 := at_wrap64 hm hi hk qk2
  dsimp only at qk1 qk2 qk3 qk4 hk hq1 hq2 ⊢
  have hne : ∀ g cs, HasBlk w g 29 cs → xc ≠ g ∧ xd ≠ g ∧ xi ≠ g ∧ xt ≠ g := fun g cs hg => own_ne_fr h hg
  have HNE := Lib.hid hne
  clear hne
  have HO := Lib.hid h
  clear h hm hi hk
  go_enter Try.func59, Try.ntmps59
  go_wp2_with fail
  have HOa := (((HO.out.below ((Below.refl w.heap.size w).alloc (Nat.le_refl _) (.cells #[.int .i64 W, .int .i64 H, .slice (some ⟨xc, 0, none⟩) nc kc, .slice (some ⟨xd, 0, none⟩) nd kd, .slice (some ⟨xi, 0, none⟩) ni ki, .slice (some ⟨xt, 0, none⟩) nt kt] 29))).below ((Below.refl (w.alloc (.cells #[.int .i64 W, .int .i64 H, .slice (some ⟨xc, 0, none⟩) nc kc, .slice (some ⟨xd, 0, none⟩) nd kd, .slice (some ⟨xi, 0, none⟩) ni ki, .slice (some ⟨xt, 0, none⟩) nt kt] 29)).heap.size (w.alloc (.cells #[.int .i64 W, .int .i64 H, .slice (some ⟨xc, 0, none⟩) nc kc, .slice (some ⟨xd, 0, none⟩) nd kd, .slice (some ⟨xi, 0, none⟩) ni ki, .slice (some ⟨xt, 0, none⟩) nt kt] 29))).alloc (Nat.le_refl _) (.cells #[.int .i64 d, .int .i64 i, .int .i64 t, .int .i64 p9, .int .i64 u, .int .i64 v] 25))).below ((Below.refl ((w.alloc (.cells #[.int .i64 W, .int .i64 H, .slice (some ⟨xc, 0, none⟩) nc kc, .slice (some ⟨xd, 0, none⟩) nd kd, .slice (some ⟨xi, 0, none⟩) ni ki, .slice (some ⟨xt, 0, none⟩) nt kt] 29)).alloc (.cells #[.int .i64 d, .int .i64 i, .int .i64 t, .int .i64 p9, .int .i64 u, .int .i64 v] 25)).heap.size ((w.alloc (.cells #[.int .i64 W, .int .i64 H, .slice (some ⟨xc, 0, none⟩) nc kc, .slice (some ⟨xd, 0, none⟩) nd kd, .slice (some ⟨xi, 0, none⟩) ni ki, .slice (some ⟨xt, 0, none⟩) nt kt] 29)).alloc (.cells #[.int .i64 d, .int .i64 i, .int .i64 t, .int .i64 p9, .int .i64 u, .int .i64 v] 25))).alloc (Nat.le_refl _) (.cells #[.int .u8 (c 0), .int .u8 (c 1), .int .u8 (c 2), .int .u8 (c 3)] 23)))
  clear HO
  have NE_P_G := Lib.hid (show w.heap.size ≠ w.heap.size + 1 by omega)
  have NE_P_K := Lib.hid (show w.heap.size ≠ w.heap.size + 1 + 1 by omega)
  have NE_G_K := Lib.hid (show w.heap.size + 1 ≠ w.heap.size + 1 + 1 by omega)
  have s_P : HasBlk (w.alloc (.cells #[.int .i64 W, .int .i64 H, .slice (some ⟨xc, 0, none⟩) nc kc, .slice (some ⟨xd, 0, none⟩) nd kd, .slice (some ⟨xi, 0, none⟩) ni ki, .slice (some ⟨xt, 0, none⟩) nt kt] 29)) (w.heap.size) 29 #[.int .i64 W, .int .i64 H, .slice (some ⟨xc, 0, none⟩) nc kc, .slice (some ⟨xd, 0, none⟩) nd kd, .slice (some ⟨xi, 0, none⟩) ni ki, .slice (some ⟨xt, 0, none⟩) nt kt] := by simpa using hasBlk_new w 29 #[.int .i64 W, .int .i64 H, .slice (some ⟨xc, 0, none⟩) nc kc, .slice (some ⟨xd, 0, none⟩) nd kd, .slice (some ⟨xi, 0, none⟩) ni ki, .slice (some ⟨xt, 0, none⟩) nt kt]
  replace s_P := s_P.alloc (.cells #[.int .i64 d, .int .i64 i, .int .i64 t, .int .i64 p9, .int .i64 u, .int .i64 v] 25)
  have s_G : HasBlk ((w.alloc (.cells #[.int .i64 W, .int .i64 H, .slice (some ⟨xc, 0, none⟩) nc kc, .slice (some ⟨xd, 0, none⟩) nd kd, .slice (some ⟨xi, 0, none⟩) ni ki, .slice (some ⟨xt, 0, none⟩) nt kt] 29)).alloc (.cells #[.int .i64 d, .int .i64 i, .int .i64 t, .int .i64 p9, .int .i64 u, .int .i64 v] 25)) (w.heap.size + 1) 25 #[.int .i64 d, .int .i64 i, .int .i64 t, .int .i64 p9, .int .i64 u, .int .i64 v] := by simpa using hasBlk_new (w.alloc (.cells #[.int .i64 W, .int .i64 H, .slice (some ⟨xc, 0, none⟩) nc kc, .slice (some ⟨xd, 0, none⟩) nd kd, .slice (some ⟨xi, 0, none⟩) ni ki, .slice (some ⟨xt, 0, none⟩) nt kt] 29)) 25 #[.int .i64 d, .int .i64 i, .int .i64 t, .int .i64 p9, .int .i64 u, .int .i64 v]
  replace s_P := s_P.alloc (.cells #[.int .u8 (c 0), .int .u8 (c 1), .int .u8 (c 2), .int .u8 (c 3)] 23)
  replace s_G := s_G.alloc (.cells #[.int .u8 (c 0), .int .u8 (c 1), .int .u8 (c 2), .int .u8 (c 3)] 23)
  have s_K : HasBlk (((w.alloc (.cells #[.int .i64 W, .int .i64 H, .slice (some ⟨xc, 0, none⟩) nc kc, .slice (some ⟨xd, 0, none⟩) nd kd, .slice (some ⟨xi, 0, none⟩) ni ki, .slice (some ⟨xt, 0, none⟩) nt kt] 29)).alloc (.cells #[.int .i64 d, .int .i64 i, .int .i64 t, .int .i64 p9, .int .i64 u, .int .i64 v] 25)).alloc (.cells #[.int .u8 (c 0), .int .u8 (c 1), .int .u8 (c 2), .int .u8 (c 3)] 23)) (w.heap.size + 1 + 1) 23 #[.int .u8 (c 0), .int .u8 (c 1), .int .u8 (c 2), .int .u8 (c 3)] := by simpa using hasBlk_new ((w.alloc (.cells #[.int .i64 W, .int .i64 H, .slice (some ⟨xc, 0, none⟩) nc kc, .slice (some ⟨xd, 0, none⟩) nd kd, .slice (some ⟨xi, 0, none⟩) ni ki, .slice (some ⟨xt, 0, none⟩) nt kt] 29)).alloc (.cells #[.int .i64 d, .int .i64 i, .int .i64 t, .int .i64 p9, .int .i64 u, .int .i64 v] 25)) 23 #[.int .u8 (c 0), .int .u8 (c 1), .int .u8 (c 2), .int .u8 (c 3)]
  have t_P : HasBlk (((w.alloc (.cells #[.int .i64 W, .int .i64 H, .slice (some ⟨xc, 0, none⟩) nc kc, .slice (some ⟨xd, 0, none⟩) nd kd, .slice (some ⟨xi, 0, none⟩) ni ki, .slice (some ⟨xt, 0, none⟩) nt kt] 29)).alloc (.cells #[.int .i64 d, .int .i64 i, .int .i64 t, .int .i64 p9, .int .i64 u, .int .i64 v] 25)).alloc (.cells #[.int .u8 (c 0), .int .u8 (c 1), .int .u8 (c 2), .int .u8 (c 3)] 23)) (w.heap.size) 29 #[.int .i64 W, .int .i64 H, .slice (some ⟨xc, 0, none⟩) nc kc, .slice (some ⟨xd, 0, none⟩) nd kd, .slice (some ⟨xi, 0, none⟩) ni ki, .slice (some ⟨xt, 0, none⟩) nt kt] := by simpa using s_P
  clear s_P
  have t_G : HasBlk (((w.alloc (.cells #[.int .i64 W, .int .i64 H, .slice (some ⟨xc, 0, none⟩) nc kc, .slice (some ⟨xd, 0, none⟩) nd kd, .slice (some ⟨xi, 0, none⟩) ni ki, .slice (some ⟨xt, 0, none⟩) nt kt] 29)).alloc (.cells #[.int .i64 d, .int .i64 i, .int .i64 t, .int .i64 p9, .int .i64 u, .int .i64 v] 25)).alloc (.cells #[.int .u8 (c 0), .int .u8 (c 1), .int .u8 (c 2), .int .u8 (c 3)] 23)) (w.heap.size + 1) 25 #[.int .i64 d, .int .i64 i, .int .i64 t, .int .i64 p9, .int .i64 u, .int .i64 v] := by simpa using s_G
  clear s_G
  have t_K : HasBlk (((w.alloc (.cells #[.int .i64 W, .int .i64 H, .slice (some ⟨xc, 0, none⟩) nc kc, .slice (some ⟨xd, 0, none⟩) nd kd, .slice (some ⟨xi, 0, none⟩) ni ki, .slice (some ⟨xt, 0, none⟩) nt kt] 29)).alloc (.cells #[.int .i64 d, .int .i64 i, .int .i64 t, .int .i64 p9, .int .i64 u, .int .i64 v] 25)).alloc (.cells #[.int .u8 (c 0), .int .u8 (c 1), .int .u8 (c 2), .int .u8 (c 3)] 23)) (w.heap.size + 1 + 1) 23 #[.int .u8 (c 0), .int .u8 (c 1), .int .u8 (c 2), .int .u8 (c 3)] := by simpa using s_K
  clear s_K
  have SB1 : Below w.heap.size w (((w.alloc (.cells #[.int .i64 W, .int .i64 H, .slice (some ⟨xc, 0, none⟩) nc kc, .slice (some ⟨xd, 0, none⟩) nd kd, .slice (some ⟨xi, 0, none⟩) ni ki, .slice (some ⟨xt, 0, none⟩) nt kt] 29)).alloc (.cells #[.int .i64 d, .int .i64 i, .int .i64 t, .int .i64 p9, .int .i64 u, .int .i64 v] 25)).alloc (.cells #[.int .u8 (c 0), .int .u8 (c 1), .int .u8 (c 2), .int .u8 (c 3)] 23)) := by
    repeat' (first | exact Below.refl _ _ | assumption | apply Below.drew | refine Below.setCell ?_ (by first | omega | (simp; done) | (simp; omega)) _ | refine Below.alloc ?_ (by first | omega | (simp; done) | (simp; omega)) _)
  generalize gW_v0 : (((w.alloc (.cells #[.int .i64 W, .int .i64 H, .slice (some ⟨xc, 0, none⟩) nc kc, .slice (some ⟨xd, 0, none⟩) nd kd, .slice (some ⟨xi, 0, none⟩) ni ki, .slice (some ⟨xt, 0, none⟩) nt kt] 29)).alloc (.cells #[.int .i64 d, .int .i64 i, .int .i64 t, .int .i64 p9, .int .i64 u, .int .i64 v] 25)).alloc (.cells #[.int .u8 (c 0), .int .u8 (c 1), .int .u8 (c 2), .int .u8 (c 3)] 23)) = v0 at *
  clear gW_v0
  have P := Lib.hid t_P
  clear t_P
  have G := Lib.hid t_G
  clear t_G
  have K := Lib.hid t_K
  clear t_K
  have SB1h := Lib.hid SB1
  clear SB1
  have HO := Lib.hid HOa
  clear HOa
  refine (refover25_any ⟨(some ⟨xc, 0, none⟩), (some ⟨xd, 0, none⟩), (some ⟨xi, 0, none⟩), (some ⟨xt, 0, none⟩), kc, kd, ki, kt⟩ ⟨W, H, nc, nd, ni, nt, C, D, I, T⟩ k d i t p9 u v _ HO.out.ok qk2 qk3 qk4).mono ?_
  rintro e w1 ⟨rfl, bel1⟩
  have HOa := HO.out.below bel1
  clear HO
  have HO := Lib.hid HOa
  clear HOa
  have t_P := P.out.below bel1
  clear P
  have P := Lib.hid t_P
  clear t_P
  have t_G := G.out.below bel1
  clear G
  have G := Lib.hid t_G
  clear t_G
  have t_K := K.out.below bel1
  clear K
  have K := Lib.hid t_K
  clear t_K
  have SB2 : Below w.heap.size w w1 := SB1h.out.trans (bel1.mono SB1h.out.size)
  clear SB1h
  have SB2h := Lib.hid SB2
  clear SB2 bel1
  have lt_P := P.out.lt
  have P_0 := P.out.cell 0
  have P_1 := P.out.cell 1
  have P_2 := P.out.cell 2
  have P_3 := P.out.cell 3
  have P_4 := P.out.cell 4
  have P_5 := P.out.cell 5
  simp at P_0 P_1 P_2 P_3 P_4 P_5
  have lt_G := G.out.lt
  have G_0 := G.out.cell 0
  have G_1 := G.out.cell 1
  have G_2 := G.out.cell 2
  have G_3 := G.out.cell 3
  have G_4 := G.out.cell 4
  have G_5 := G.out.cell 5
  simp at G_0 G_1 G_2 G_3 G_4 G_5
  have lt_K := K.out.lt
  have K_0 := K.out.cell 0
  have K_1 := K.out.cell 1
  have K_2 := K.out.cell 2
  have K_3 := K.out.cell 3
  simp at K_0 K_1 K_2 K_3
  have szB_w1 := SB2h.out.size
  by_cases ho : FD.Over ⟨W, H, nc, nd, ni, nt, C, D, I, T⟩ k d i t
  rotate_left
  · rw [decide_eq_false ho]
    have Ho := Lib.hid ho
    clear ho
    go_wp2
    go_end0
    exact ⟨rfl, by unfold FD.put; rw [if_neg Ho.out]; exact HO.out, SB2h.out.mono hB, fun g cs hg => hg.below SB2h.out⟩
  rw [decide_eq_true ho]
  have Ho := Lib.hid ho
  clear ho P_0 P_1 P_2 P_3 P_4 P_5 G_0 G_1 G_2 G_3 G_4 G_5
  have HB1 : Below B w w1 := SB2h.out.mono hB
  obtain ⟨zc, zd, zi, zt, ⟨ea, eb, ec, ed⟩, _, _, ⟨n1, n2, n3, n4, n5, n6⟩, ⟨fc, fd, fi, ft⟩, ⟨cC, cD, cI, cT⟩, hcol, hset⟩ := FOwn.store HO.out qk1 qk2 qk3 qk4
  dsimp only at ea eb ec ed cC cD cI cT
  cases ea
  cases eb
  cases ec
  cases ed
  have hs4 := hset d i t c
  simp only [Nat.add_zero] at hs4
  have hj0 : (0 : Int) ≤ (k : Int) := by omega
  have hj1 : (k : Int) < (nc : Int) := by omega
  have hj2 : (k : Int) < (nd : Int) := by omega
  have hj3 : (k : Int) < (ni : Int) := by omega
  have hj4 : (k : Int) < (nt : Int) := by omega
  have tc0 : CT w1 xc (k * 4) _ := ⟨cC 0 (by omega), fc (k * 4)⟩
  have tc1 : CT w1 xc (k * 4 + 1) _ := ⟨cC 1 (by omega), fc (k * 4 + 1)⟩
  have tc2 : CT w1 xc (k * 4 + 2) _ := ⟨cC 2 (by omega), fc (k * 4 + 2)⟩
  have tc3 : CT w1 xc (k * 4 + 3) _ := ⟨cC 3 (by omega), fc (k * 4 + 3)⟩
  have td : CT w1 xd k _ := ⟨cD, fd k⟩
  have ti : CT w1 xi k _ := ⟨cI, fi k⟩
  have tt : CT w1 xt k _ := ⟨cT, ft k⟩
  clear cC cD cI cT fc fd fi ft hcol hset
  have p1 := P.out
  have g1 := G.out
  have y1_2 := p1.cell 2
  simp at y1_2
  have zxcp : xc ≠ w.heap.size := by omega
  have zxcg : xc ≠ w.heap.size + 1 := by omega
  have zxdp : xd ≠ w.heap.size := by omega
  have zxdg : xd ≠ w.heap.size + 1 := by omega
  have zxip : xi ≠ w.heap.size := by omega
  have zxig : xi ≠ w.heap.size + 1 := by omega
  have zxtp : xt ≠ w.heap.size := by omega
  have zxtg : xt ≠ w.heap.size + 1 := by omega
  have lxc : B ≤ xc := by omega
  have lxd : B ≤ xd := by omega
  have lxi : B ≤ xi := by omega
  have lxt : B ≤ xt := by omega
  have e1 := st4 (a := c 0) (b := c 1) (c := c 2) (d := c 3) tc0 tc1 tc2 tc3
  simp [go_sem] at e1
  have p2 : HasBlk ((((w1.setCell ⟨xc, k * 4, none⟩ (.int .u8 (c 0))).setCell ⟨xc, k * 4 + 1, none⟩ (.int .u8 (c 1))).setCell ⟨xc, k * 4 + 2, none⟩ (.int .u8 (c 2))).setCell ⟨xc, k * 4 + 3, none⟩ (.int .u8 (c 3))) (w.heap.size) 29 #[.int .i64 W, .int .i64 H, .slice (some ⟨xc, 0, none⟩) nc kc, .slice (some ⟨xd, 0, none⟩) nd kd, .slice (some ⟨xi, 0, none⟩) ni ki, .slice (some ⟨xt, 0, none⟩) nt kt] := (((p1.far (p := ⟨xc, k * 4, none⟩) zxcp _).far (p := ⟨xc, k * 4 + 1, none⟩) zxcp _).far (p := ⟨xc, k * 4 + 2, none⟩) zxcp _).far (p := ⟨xc, k * 4 + 3, none⟩) zxcp _
  have g2 : HasBlk ((((w1.setCell ⟨xc, k * 4, none⟩ (.int .u8 (c 0))).setCell ⟨xc, k * 4 + 1, none⟩ (.int .u8 (c 1))).setCell ⟨xc, k * 4 + 2, none⟩ (.int .u8 (c 2))).setCell ⟨xc, k * 4 + 3, none⟩ (.int .u8 (c 3))) (w.heap.size + 1) 25 #[.int .i64 d, .int .i64 i, .int .i64 t, .int .i64 p9, .int .i64 u, .int .i64 v] := (((g1.far (p := ⟨xc, k * 4, none⟩) zxcg _).far (p := ⟨xc, k * 4 + 1, none⟩) zxcg _).far (p := ⟨xc, k * 4 + 2, none⟩) zxcg _).far (p := ⟨xc, k * 4 + 3, none⟩) zxcg _
  have d2 : CT ((((w1.setCell ⟨xc, k * 4, none⟩ (.int .u8 (c 0))).setCell ⟨xc, k * 4 + 1, none⟩ (.int .u8 (c 1))).setCell ⟨xc, k * 4 + 2, none⟩ (.int .u8 (c 2))).setCell ⟨xc, k * 4 + 3, none⟩ (.int .u8 (c 3))) xd k (.int .i64 (D k)) := td.far4 (a := k * 4) (b := k * 4 + 1) (c := k * 4 + 2) (d := k * 4 + 3) n1 (.int .u8 (c 0)) (.int .u8 (c 1)) (.int .u8 (c 2)) (.int .u8 (c 3))
  have i2 : CT ((((w1.setCell ⟨xc, k * 4, none⟩ (.int .u8 (c 0))).setCell ⟨xc, k * 4 + 1, none⟩ (.int .u8 (c 1))).setCell ⟨xc, k * 4 + 2, none⟩ (.int .u8 (c 2))).setCell ⟨xc, k * 4 + 3, none⟩ (.int .u8 (c 3))) xi k (.int .i64 (I k)) := ti.far4 (a := k * 4) (b := k * 4 + 1) (c := k * 4 + 2) (d := k * 4 + 3) n2 (.int .u8 (c 0)) (.int .u8 (c 1)) (.int .u8 (c 2)) (.int .u8 (c 3))
  have t2 : CT ((((w1.setCell ⟨xc, k * 4, none⟩ (.int .u8 (c 0))).setCell ⟨xc, k * 4 + 1, none⟩ (.int .u8 (c 1))).setCell ⟨xc, k * 4 + 2, none⟩ (.int .u8 (c 2))).setCell ⟨xc, k * 4 + 3, none⟩ (.int .u8 (c 3))) xt k (.int .i64 (T k)) := tt.far4 (a := k * 4) (b := k * 4 + 1) (c := k * 4 + 2) (d := k * 4 + 3) n3 (.int .u8 (c 0)) (.int .u8 (c 1)) (.int .u8 (c 2)) (.int .u8 (c 3))
  have kp2 : ∀ g cs, HasBlk w g 29 cs → HasBlk ((((w1.setCell ⟨xc, k * 4, none⟩ (.int .u8 (c 0))).setCell ⟨xc, k * 4 + 1, none⟩ (.int .u8 (c 1))).setCell ⟨xc, k * 4 + 2, none⟩ (.int .u8 (c 2))).setCell ⟨xc, k * 4 + 3, none⟩ (.int .u8 (c 3))) g 29 cs := fun g cs hg => ((((hg.below SB2h.out).far (p := ⟨xc, k * 4, none⟩) (HNE.out g cs hg).1 _).far (p := ⟨xc, k * 4 + 1, none⟩) (HNE.out g cs hg).1 _).far (p := ⟨xc, k * 4 + 2, none⟩) (HNE.out g cs hg).1 _).far (p := ⟨xc, k * 4 + 3, none⟩) (HNE.out g cs hg).1 _
  have b2 : Below B w ((((w1.setCell ⟨xc, k * 4, none⟩ (.int .u8 (c 0))).setCell ⟨xc, k * 4 + 1, none⟩ (.int .u8 (c 1))).setCell ⟨xc, k * 4 + 2, none⟩ (.int .u8 (c 2))).setCell ⟨xc, k * 4 + 3, none⟩ (.int .u8 (c 3))) := Below.setCell (p := ⟨xc, k * 4 + 3, none⟩) (Below.setCell (p := ⟨xc, k * 4 + 2, none⟩) (Below.setCell (p := ⟨xc, k * 4 + 1, none⟩) (Below.setCell (p := ⟨xc, k * 4, none⟩) HB1 lxc _) lxc _) lxc _) lxc _
  obtain ⟨w2, hw2⟩ : ∃ w2, w2 = ((((w1.setCell ⟨xc, k * 4, none⟩ (.int .u8 (c 0))).setCell ⟨xc, k * 4 + 1, none⟩ (.int .u8 (c 1))).setCell ⟨xc, k * 4 + 2, none⟩ (.int .u8 (c 2))).setCell ⟨xc, k * 4 + 3, none⟩ (.int .u8 (c 3))) := ⟨_, rfl⟩
  rw [← hw2] at e1 p2 g2 d2 i2 t2 b2 kp2 hs4
  clear tc0 tc1 tc2 tc3 td ti tt p1 g1 HB1
  have y2_3 := p2.cell 3
  have y2_4 := p2.cell 4
  have y2_5 := p2.cell 5
  have y2_g0 := g2.cell 0
  have y2_g1 := g2.cell 1
  have y2_g2 := g2.cell 2
  simp at y2_3 y2_4 y2_5 y2_g0 y2_g1 y2_g2
  have b5 : Below B w (((w2.setCell ⟨xd, k, none⟩ (.int .i64 d)).setCell ⟨xi, k, none⟩ (.int .i64 i)).setCell ⟨xt, k, none⟩ (.int .i64 t)) := Below.setCell (p := ⟨xt, k, none⟩) (Below.setCell (p := ⟨xi, k, none⟩) (Below.setCell (p := ⟨xd, k, none⟩) b2 lxd _) lxi _) lxt _
  have kp5 : ∀ g cs, HasBlk w g 29 cs → HasBlk (((w2.setCell ⟨xd, k, none⟩ (.int .i64 d)).setCell ⟨xi, k, none⟩ (.int .i64 i)).setCell ⟨xt, k, none⟩ (.int .i64 t)) g 29 cs := fun g cs hg => (((kp2 g cs hg).far (p := ⟨xd, k, none⟩) (HNE.out g cs hg).2.1 _).far (p := ⟨xi, k, none⟩) (HNE.out g cs hg).2.2.1 _).far (p := ⟨xt, k, none⟩) (HNE.out g cs hg).2.2.2 _
  have HS := Lib.hid hs4
  have HBE := Lib.hid b5
  have HKP := Lib.hid kp5
  have e1 := Lib.hid e1
  obtain ⟨d2, d2f⟩ := d2
  obtain ⟨i2, i2f⟩ := i2
  obtain ⟨t2, t2f⟩ := t2
  have m4 := Ne.symm n4
  have m5 := Ne.symm n5
  have m6 := Ne.symm n6
  have mxd := Ne.symm zxdp
  have mxi := Ne.symm zxip
  have mxdg := Ne.symm zxdg
  have mxig := Ne.symm zxig
  clear hs4 b2 b5 kp2 kp5 p2 g2 hw2 n1 n2 n3 zxcp zxcg zxtp zxtg
  go_wp2_with (refine upon_store e1.out ?_)
  go_end0
  exact ⟨rfl, by unfold FD.put; rw [if_pos Ho.out]; exact HS.out, HBE.out, HKP.out⟩

set_option maxRecDepth 100000 in
set_option maxHeartbeats 8000000 in
theorem cover_any (p : FP) (f : FD) (x y d : Int) (c : Nat → Int) (k B : Nat) (w : World) (h : FOwn B w p f) (hB : B ≤ w.heap.size) (hm : f.May) (hi : f.In x y) (hk : y * f.W + x = k) (hl : k < f.nc ∧ k < f.nd ∧ k < f.ni ∧ k < f.nt) (hc : Byte (c 3)) (hu : ∀ j, Byte (f.C j 3)) : Calls Try.prog 63 #[.agg #[.int .i64 f.W, .int .i64 f.H, .slice p.ac f.nc p.kc, .slice p.ad f.nd p.kd, .slice p.ai f.ni p.ki, .slice p.a4 f.nt p.kt], .int .i64 x, .int .i64 y, .int .i64 d, .agg #[.int .u8 (c 0), .int .u8 (c 1), .int .u8 (c 2), .int .u8 (c 3)]] w fun e w' => e = .returned (.tuple #[]) ∧ FOwn B w' p (f.lay k d c) ∧ Below B w w' ∧ ∀ g cs, HasBlk w g 29 cs → HasBlk w' g 29 cs := by
  obtain ⟨W, H, nc, nd, ni, nt, C, D, I, T⟩ := f
  obtain ⟨ac, ad, ai, a4, kc, kd, ki, kt⟩ := p
  obtain ⟨qk1, qk2, qk3, qk4⟩ := hl
  obtain ⟨xc, xd, xi, xt, ⟨rfl, rfl, rfl, rfl⟩, hge, hlt0, _, _⟩ := FOwn.store h qk1 qk2 qk3 qk4
  have hq1 := at_wrap hm hi hk qk2
  have hq2 := at_wrap64 hm hi hk qk2
  dsimp only at qk1 qk2 qk3 qk4 hk hq1 hq2 ⊢
  have hne : ∀ g cs, HasBlk w g 29 cs → xc ≠ g ∧ xd ≠ g ∧ xi ≠ g ∧ xt ≠ g := fun g cs hg => own_ne_fr h hg
  have HNE := Lib.hid hne
  clear hne
  have HO := Lib.hid h
  clear h hm hi hk
  go_enter Try.func63, Try.ntmps63
  go_upto_region 1 with fail
  have HOa := ((HO.out.below ((Below.refl w.heap.size w).alloc (Nat.le_refl _) (.cells #[.int .i64 W, .int .i64 H, .slice (some ⟨xc, 0, none⟩) nc kc, .slice (some ⟨xd, 0, none⟩) nd kd, .slice (some ⟨xi, 0, none⟩) ni ki, .slice (some ⟨xt, 0, none⟩) nt kt] 29))).below ((Below.refl (w.alloc (.cells #[.int .i64 W, .int .i64 H, .slice (some ⟨xc, 0, none⟩) nc kc, .slice (some ⟨xd, 0, none⟩) nd kd, .slice (some ⟨xi, 0, none⟩) ni ki, .slice (some ⟨xt, 0, none⟩) nt kt] 29)).heap.size (w.alloc (.cells #[.int .i64 W, .int .i64 H, .slice (some ⟨xc, 0, none⟩) nc kc, .slice (some ⟨xd, 0, none⟩) nd kd, .slice (some ⟨xi, 0, none⟩) ni ki, .slice (some ⟨xt, 0, none⟩) nt kt] 29))).alloc (Nat.le_refl _) (.cells #[.int .u8 (c 0), .int .u8 (c 1), .int .u8 (c 2), .int .u8 (c 3)] 23)))
  clear HO
  have NE_P_K := Lib.hid (show w.heap.size ≠ w.heap.size + 1 by omega)
  have s_P : HasBlk (w.alloc (.cells #[.int .i64 W, .int .i64 H, .slice (some ⟨xc, 0, none⟩) nc kc, .slice (some ⟨xd, 0, none⟩) nd kd, .slice (some ⟨xi, 0, none⟩) ni ki, .slice (some ⟨xt, 0, none⟩) nt kt] 29)) (w.heap.size) 29 #[.int .i64 W, .int .i64 H, .slice (some ⟨xc, 0, none⟩) nc kc, .slice (some ⟨xd, 0, none⟩) nd kd, .slice (some ⟨xi, 0, none⟩) ni ki, .slice (some ⟨xt, 0, none⟩) nt kt] := by simpa using hasBlk_new w 29 #[.int .i64 W, .int .i64 H, .slice (some ⟨xc, 0, none⟩) nc kc, .slice (some ⟨xd, 0, none⟩) nd kd, .slice (some ⟨xi, 0, none⟩) ni ki, .slice (some ⟨xt, 0, none⟩) nt kt]
  replace s_P := s_P.alloc (.cells #[.int .u8 (c 0), .int .u8 (c 1), .int .u8 (c 2), .int .u8 (c 3)] 23)
  have s_K : HasBlk ((w.alloc (.cells #[.int .i64 W, .int .i64 H, .slice (some ⟨xc, 0, none⟩) nc kc, .slice (some ⟨xd, 0, none⟩) nd kd, .slice (some ⟨xi, 0, none⟩) ni ki, .slice (some ⟨xt, 0, none⟩) nt kt] 29)).alloc (.cells #[.int .u8 (c 0), .int .u8 (c 1), .int .u8 (c 2), .int .u8 (c 3)] 23)) (w.heap.size + 1) 23 #[.int .u8 (c 0), .int .u8 (c 1), .int .u8 (c 2), .int .u8 (c 3)] := by simpa using hasBlk_new (w.alloc (.cells #[.int .i64 W, .int .i64 H, .slice (some ⟨xc, 0, none⟩) nc kc, .slice (some ⟨xd, 0, none⟩) nd kd, .slice (some ⟨xi, 0, none⟩) ni ki, .slice (some ⟨xt, 0, none⟩) nt kt] 29)) 23 #[.int .u8 (c 0), .int .u8 (c 1), .int .u8 (c 2), .int .u8 (c 3)]
  have t_P : HasBlk ((w.alloc (.cells #[.int .i64 W, .int .i64 H, .slice (some ⟨xc, 0, none⟩) nc kc, .slice (some ⟨xd, 0, none⟩) nd kd, .slice (some ⟨xi, 0, none⟩) ni ki, .slice (some ⟨xt, 0, none⟩) nt kt] 29)).alloc (.cells #[.int .u8 (c 0), .int .u8 (c 1), .int .u8 (c 2), .int .u8 (c 3)] 23)) (w.heap.size) 29 #[.int .i64 W, .int .i64 H, .slice (some ⟨xc, 0, none⟩) nc kc, .slice (some ⟨xd, 0, none⟩) nd kd, .slice (some ⟨xi, 0, none⟩) ni ki, .slice (some ⟨xt, 0, none⟩) nt kt] := by simpa using s_P
  clear s_P
  have t_K : HasBlk ((w.alloc (.cells #[.int .i64 W, .int .i64 H, .slice (some ⟨xc, 0, none⟩) nc kc, .slice (some ⟨xd, 0, none⟩) nd kd, .slice (some ⟨xi, 0, none⟩) ni ki, .slice (some ⟨xt, 0, none⟩) nt kt] 29)).alloc (.cells #[.int .u8 (c 0), .int .u8 (c 1), .int .u8 (c 2), .int .u8 (c 3)] 23)) (w.heap.size + 1) 23 #[.int .u8 (c 0), .int .u8 (c 1), .int .u8 (c 2), .int .u8 (c 3)] := by simpa using s_K
  clear s_K
  have SB1 : Below w.heap.size w ((w.alloc (.cells #[.int .i64 W, .int .i64 H, .slice (some ⟨xc, 0, none⟩) nc kc, .slice (some ⟨xd, 0, none⟩) nd kd, .slice (some ⟨xi, 0, none⟩) ni ki, .slice (some ⟨xt, 0, none⟩) nt kt] 29)).alloc (.cells #[.int .u8 (c 0), .int .u8 (c 1), .int .u8 (c 2), .int .u8 (c 3)] 23)) := by
    repeat' (first | exact Below.refl _ _ | assumption | apply Below.drew | refine Below.setCell ?_ (by first | omega | (simp; done) | (simp; omega)) _ | refine Below.alloc ?_ (by first | omega | (simp; done) | (simp; omega)) _)
  generalize gW_v0 : ((w.alloc (.cells #[.int .i64 W, .int .i64 H, .slice (some ⟨xc, 0, none⟩) nc kc, .slice (some ⟨xd, 0, none⟩) nd kd, .slice (some ⟨xi, 0, none⟩) ni ki, .slice (some ⟨xt, 0, none⟩) nt kt] 29)).alloc (.cells #[.int .u8 (c 0), .int .u8 (c 1), .int .u8 (c 2), .int .u8 (c 3)] 23)) = v0 at *
  clear gW_v0
  have P := Lib.hid t_P
  clear t_P
  have K := Lib.hid t_K
  clear t_K
  have SB1h := Lib.hid SB1
  clear SB1
  have HO := Lib.hid HOa
  clear HOa
  have lt_P := P.out.lt
  have P_0 := P.out.cell 0
  have P_1 := P.out.cell 1
  have P_2 := P.out.cell 2
  have P_3 := P.out.cell 3
  have P_4 := P.out.cell 4
  have P_5 := P.out.cell 5
  simp at P_0 P_1 P_2 P_3 P_4 P_5
  have lt_K := K.out.lt
  have K_0 := K.out.cell 0
  have K_1 := K.out.cell 1
  have K_2 := K.out.cell 2
  have K_3 := K.out.cell 3
  simp at K_0 K_1 K_2 K_3
  have szB_v0 := SB1h.out.size
  have hj0 : (0 : Int) ≤ (k : Int) := by omega
  have hj1 : (k : Int) < (nc : Int) := by omega
  have hj2 : (k : Int) < (nd : Int) := by omega
  have hj3 : (k : Int) < (ni : Int) := by omega
  have HBv : Below B w v0 := SB1h.out.mono hB
  have HBvh := Lib.hid HBv
  clear HBv
  obtain ⟨zc, zd, zi, zt, ⟨ea, eb, ec, ed⟩, _, _, ⟨n1, n2, n3, n4, n5, n6⟩, ⟨fc, fd, fi, ft⟩, ⟨cC, cD, cI, cT⟩, hcol, hset⟩ := FOwn.store HO.out qk1 qk2 qk3 qk4
  dsimp only at ea eb ec ed cC cD cI cT
  cases ea
  cases eb
  cases ec
  cases ed
  clear fc fd fi ft hcol hset n1 n2 n3 n4 n5 n6 cT
  by_cases hI : I k < 0
  · have gI : decide (I k < 0) = true := decide_eq_true hI
    have Ho := Lib.hid (show I k < 0 ∨ D k < d from .inl hI)
    clear hI
    go_wp2_with fail
    have mc : xc < v0.heap.size := by omega
    have s0 := cC 0 (by omega)
    have s1 := cC 1 (by omega)
    have s2 := cC 2 (by omega)
    have s3 := cC 3 (by omega)
    simp only [Nat.add_zero] at s0
    clear cC cD cI
    have pS0 := fun b : BW v0 => BW.cell s0 mc b
    have pS1 := fun b : BW v0 => BW.cell s1 mc b
    have pS2 := fun b : BW v0 => BW.cell s2 mc b
    have pS3 := fun b : BW v0 => BW.cell s3 mc b
    have pP2 := fun b : BW v0 => BW.cell P_2 lt_P b
    have pK0 := fun b : BW v0 => BW.cell K_0 lt_K b
    have pK1 := fun b : BW v0 => BW.cell K_1 lt_K b
    have pK2 := fun b : BW v0 => BW.cell K_2 lt_K b
    have pK3 := fun b : BW v0 => BW.cell K_3 lt_K b
    have kO := Lib.hid (fun b : BW v0 => BW.call (v := .agg #[.int .u8 (ovc c (C k) 0), .int .u8 (ovc c (C k) 1), .int .u8 (ovc c (C k) 2), .int .u8 (ovc c (C k) 3)]) (fun W' (h : Below v0.heap.size v0 W') => refover_ovc hc (hu k) W') b)
    clear s0 s1 s2 s3 lt_P P_0 P_1 P_2 P_3 P_4 P_5 lt_K K_0 K_1 K_2 K_3
    refine wp_region_bw_tail 11 (by kernel_rfl) (by kernel_rfl) ?_
    simp only [List.take_succ_cons, List.take_zero, List.drop_succ_cons, List.drop_zero]
    repeat (go_big_quiet_step ((go_at_call 80; with_reducible exact kO.out _)))
    refine wpQuiet_nil ?_
    intro _ hw'
    obtain ⟨pq, hw''⟩ := hw'
    subst hw''
    clear pS0 pS1 pS2 pS3 pP2 pK0 pK1 pK2 pK3 kO
    have HO4 := Lib.hid (HO.out.below pq.h)
    have KP4 := Lib.hid (fun g cs (hg : HasBlk w g 29 cs) => (hg.below SB1h.out).below pq.h)
    have HB4 := Lib.hid (HBvh.out.trans (pq.h.mono (Nat.le_trans hB SB1h.out.size)))
    generalize pq.W = w4 at *
    clear pq
    obtain ⟨zc, zd, zi, zt, ⟨ea, eb, ec, ed⟩, _, _, _, ⟨fc, _, _, _⟩, ⟨cC, _, _, _⟩, hset, _⟩ := FOwn.store HO4.out qk1 qk2 qk3 qk4
    dsimp only at ea eb ec ed cC
    cases ea
    cases eb
    cases ec
    cases ed
    have tc0 : CT w4 xc (k * 4) _ := ⟨cC 0 (by omega), fc (k * 4)⟩
    have tc1 : CT w4 xc (k * 4 + 1) _ := ⟨cC 1 (by omega), fc (k * 4 + 1)⟩
    have tc2 : CT w4 xc (k * 4 + 2) _ := ⟨cC 2 (by omega), fc (k * 4 + 2)⟩
    have tc3 : CT w4 xc (k * 4 + 3) _ := ⟨cC 3 (by omega), fc (k * 4 + 3)⟩
    have hs4 := hset (ovc c (C k))
    simp only [Nat.add_zero] at hs4
    have HP : FOwn B ((((w4.setCell ⟨xc, k * 4, none⟩ (.int .u8 (ovc c (C k) 0))).setCell ⟨xc, k * 4 + 1, none⟩ (.int .u8 (ovc c (C k) 1))).setCell ⟨xc, k * 4 + 2, none⟩ (.int .u8 (ovc c (C k) 2))).setCell ⟨xc, k * 4 + 3, none⟩ (.int .u8 (ovc c (C k) 3))) ⟨(some ⟨xc, 0, none⟩), (some ⟨xd, 0, none⟩), (some ⟨xi, 0, none⟩), (some ⟨xt, 0, none⟩), kc, kd, ki, kt⟩ (FD.col ⟨W, H, nc, nd, ni, nt, C, D, I, T⟩ k (ovc c (C k))) := hs4
    have lxc : B ≤ xc := by omega
    have HB5 : Below B w ((((w4.setCell ⟨xc, k * 4, none⟩ (.int .u8 (ovc c (C k) 0))).setCell ⟨xc, k * 4 + 1, none⟩ (.int .u8 (ovc c (C k) 1))).setCell ⟨xc, k * 4 + 2, none⟩ (.int .u8 (ovc c (C k) 2))).setCell ⟨xc, k * 4 + 3, none⟩ (.int .u8 (ovc c (C k) 3))) := Below.setCell (p := ⟨xc, k * 4 + 3, none⟩) (Below.setCell (p := ⟨xc, k * 4 + 2, none⟩) (Below.setCell (p := ⟨xc, k * 4 + 1, none⟩) (Below.setCell (p := ⟨xc, k * 4, none⟩) HB4.out lxc _) lxc _) lxc _) lxc _
    have KP5 : ∀ g cs, HasBlk w g 29 cs → HasBlk ((((w4.setCell ⟨xc, k * 4, none⟩ (.int .u8 (ovc c (C k) 0))).setCell ⟨xc, k * 4 + 1, none⟩ (.int .u8 (ovc c (C k) 1))).setCell ⟨xc, k * 4 + 2, none⟩ (.int .u8 (ovc c (C k) 2))).setCell ⟨xc, k * 4 + 3, none⟩ (.int .u8 (ovc c (C k) 3))) g 29 cs := fun g cs hg => ((((KP4.out g cs hg).far (p := ⟨xc, k * 4, none⟩) (HNE.out g cs hg).1 _).far (p := ⟨xc, k * 4 + 1, none⟩) (HNE.out g cs hg).1 _).far (p := ⟨xc, k * 4 + 2, none⟩) (HNE.out g cs hg).1 _).far (p := ⟨xc, k * 4 + 3, none⟩) (HNE.out g cs hg).1 _
    have e := st4 (a := ovc c (C k) 0) (b := ovc c (C k) 1) (c := ovc c (C k) 2) (d := ovc c (C k) 3) tc0 tc1 tc2 tc3
    simp [go_sem] at e
    obtain ⟨w5, hw5⟩ : ∃ w5, w5 = ((((w4.setCell ⟨xc, k * 4, none⟩ (.int .u8 (ovc c (C k) 0))).setCell ⟨xc, k * 4 + 1, none⟩ (.int .u8 (ovc c (C k) 1))).setCell ⟨xc, k * 4 + 2, none⟩ (.int .u8 (ovc c (C k) 2))).setCell ⟨xc, k * 4 + 3, none⟩ (.int .u8 (ovc c (C k) 3))) := ⟨_, rfl⟩
    rw [← hw5] at HB5 HP KP5 e
    have e := Lib.hid e
    clear hw5 hs4 cC fc hset tc0 tc1 tc2 tc3 HO4 HB4 KP4
    have HP := Lib.hid HP
    have HB5 := Lib.hid HB5
    have KP5 := Lib.hid KP5
    go_wp2_with (refine upon_store e.out ?_)
    go_end0
    exact ⟨rfl, by unfold FD.lay; rw [if_pos Ho.out]; exact HP.out, HB5.out, KP5.out⟩
  have gI : decide (I k < 0) = false := decide_eq_false hI
  by_cases hD : D k < d
  · have gD : decide (D k < d) = true := decide_eq_true hD
    have Ho := Lib.hid (show I k < 0 ∨ D k < d from .inr hD)
    clear hI hD
    go_wp2_with fail
    have mc : xc < v0.heap.size := by omega
    have s0 := cC 0 (by omega)
    have s1 := cC 1 (by omega)
    have s2 := cC 2 (by omega)
    have s3 := cC 3 (by omega)
    simp only [Nat.add_zero] at s0
    clear cC cD cI
    have pS0 := fun b : BW v0 => BW.cell s0 mc b
    have pS1 := fun b : BW v0 => BW.cell s1 mc b
    have pS2 := fun b : BW v0 => BW.cell s2 mc b
    have pS3 := fun b : BW v0 => BW.cell s3 mc b
    have pP2 := fun b : BW v0 => BW.cell P_2 lt_P b
    have pK0 := fun b : BW v0 => BW.cell K_0 lt_K b
    have pK1 := fun b : BW v0 => BW.cell K_1 lt_K b
    have pK2 := fun b : BW v0 => BW.cell K_2 lt_K b
    have pK3 := fun b : BW v0 => BW.cell K_3 lt_K b
    have kO := Lib.hid (fun b : BW v0 => BW.call (v := .agg #[.int .u8 (ovc c (C k) 0), .int .u8 (ovc c (C k) 1), .int .u8 (ovc c (C k) 2), .int .u8 (ovc c (C k) 3)]) (fun W' (h : Below v0.heap.size v0 W') => refover_ovc hc (hu k) W') b)
    clear s0 s1 s2 s3 lt_P P_0 P_1 P_2 P_3 P_4 P_5 lt_K K_0 K_1 K_2 K_3
    refine wp_region_bw_tail 11 (by kernel_rfl) (by kernel_rfl) ?_
    simp only [List.take_succ_cons, List.take_zero, List.drop_succ_cons, List.drop_zero]
    repeat (go_big_quiet_step ((go_at_call 80; with_reducible exact kO.out _)))
    refine wpQuiet_nil ?_
    intro _ hw'
    obtain ⟨pq, hw''⟩ := hw'
    subst hw''
    clear pS0 pS1 pS2 pS3 pP2 pK0 pK1 pK2 pK3 kO
    have HO4 := Lib.hid (HO.out.below pq.h)
    have KP4 := Lib.hid (fun g cs (hg : HasBlk w g 29 cs) => (hg.below SB1h.out).below pq.h)
    have HB4 := Lib.hid (HBvh.out.trans (pq.h.mono (Nat.le_trans hB SB1h.out.size)))
    generalize pq.W = w4 at *
    clear pq
    obtain ⟨zc, zd, zi, zt, ⟨ea, eb, ec, ed⟩, _, _, _, ⟨fc, _, _, _⟩, ⟨cC, _, _, _⟩, hset, _⟩ := FOwn.store HO4.out qk1 qk2 qk3 qk4
    dsimp only at ea eb ec ed cC
    cases ea
    cases eb
    cases ec
    cases ed
    have tc0 : CT w4 xc (k * 4) _ := ⟨cC 0 (by omega), fc (k * 4)⟩
    have tc1 : CT w4 xc (k * 4 + 1) _ := ⟨cC 1 (by omega), fc (k * 4 + 1)⟩
    have tc2 : CT w4 xc (k * 4 + 2) _ := ⟨cC 2 (by omega), fc (k * 4 + 2)⟩
    have tc3 : CT w4 xc (k * 4 + 3) _ := ⟨cC 3 (by omega), fc (k * 4 + 3)⟩
    have hs4 := hset (ovc c (C k))
    simp only [Nat.add_zero] at hs4
    have HP : FOwn B ((((w4.setCell ⟨xc, k * 4, none⟩ (.int .u8 (ovc c (C k) 0))).setCell ⟨xc, k * 4 + 1, none⟩ (.int .u8 (ovc c (C k) 1))).setCell ⟨xc, k * 4 + 2, none⟩ (.int .u8 (ovc c (C k) 2))).setCell ⟨xc, k * 4 + 3, none⟩ (.int .u8 (ovc c (C k) 3))) ⟨(some ⟨xc, 0, none⟩), (some ⟨xd, 0, none⟩), (some ⟨xi, 0, none⟩), (some ⟨xt, 0, none⟩), kc, kd, ki, kt⟩ (FD.col ⟨W, H, nc, nd, ni, nt, C, D, I, T⟩ k (ovc c (C k))) := hs4
    have lxc : B ≤ xc := by omega
    have HB5 : Below B w ((((w4.setCell ⟨xc, k * 4, none⟩ (.int .u8 (ovc c (C k) 0))).setCell ⟨xc, k * 4 + 1, none⟩ (.int .u8 (ovc c (C k) 1))).setCell ⟨xc, k * 4 + 2, none⟩ (.int .u8 (ovc c (C k) 2))).setCell ⟨xc, k * 4 + 3, none⟩ (.int .u8 (ovc c (C k) 3))) := Below.setCell (p := ⟨xc, k * 4 + 3, none⟩) (Below.setCell (p := ⟨xc, k * 4 + 2, none⟩) (Below.setCell (p := ⟨xc, k * 4 + 1, none⟩) (Below.setCell (p := ⟨xc, k * 4, none⟩) HB4.out lxc _) lxc _) lxc _) lxc _
    have KP5 : ∀ g cs, HasBlk w g 29 cs → HasBlk ((((w4.setCell ⟨xc, k * 4, none⟩ (.int .u8 (ovc c (C k) 0))).setCell ⟨xc, k * 4 + 1, none⟩ (.int .u8 (ovc c (C k) 1))).setCell ⟨xc, k * 4 + 2, none⟩ (.int .u8 (ovc c (C k) 2))).setCell ⟨xc, k * 4 + 3, none⟩ (.int .u8 (ovc c (C k) 3))) g 29 cs := fun g cs hg => ((((KP4.out g cs hg).far (p := ⟨xc, k * 4, none⟩) (HNE.out g cs hg).1 _).far (p := ⟨xc, k * 4 + 1, none⟩) (HNE.out g cs hg).1 _).far (p := ⟨xc, k * 4 + 2, none⟩) (HNE.out g cs hg).1 _).far (p := ⟨xc, k * 4 + 3, none⟩) (HNE.out g cs hg).1 _
    have e := st4 (a := ovc c (C k) 0) (b := ovc c (C k) 1) (c := ovc c (C k) 2) (d := ovc c (C k) 3) tc0 tc1 tc2 tc3
    simp [go_sem] at e
    obtain ⟨w5, hw5⟩ : ∃ w5, w5 = ((((w4.setCell ⟨xc, k * 4, none⟩ (.int .u8 (ovc c (C k) 0))).setCell ⟨xc, k * 4 + 1, none⟩ (.int .u8 (ovc c (C k) 1))).setCell ⟨xc, k * 4 + 2, none⟩ (.int .u8 (ovc c (C k) 2))).setCell ⟨xc, k * 4 + 3, none⟩ (.int .u8 (ovc c (C k) 3))) := ⟨_, rfl⟩
    rw [← hw5] at HB5 HP KP5 e
    have e := Lib.hid e
    clear hw5 hs4 cC fc hset tc0 tc1 tc2 tc3 HO4 HB4 KP4
    have HP := Lib.hid HP
    have HB5 := Lib.hid HB5
    have KP5 := Lib.hid KP5
    go_wp2_with (refine upon_store e.out ?_)
    go_end0
    exact ⟨rfl, by unfold FD.lay; rw [if_pos Ho.out]; exact HP.out, HB5.out, KP5.out⟩
  have gD : decide (D k < d) = false := decide_eq_false hD
  have Ho := Lib.hid (show ¬ (I k < 0 ∨ D k < d) from fun z => by rcases z with z | z; exact hI z; exact hD z)
  clear hI hD
  go_wp2
  go_end0
  exact ⟨rfl, by unfold FD.lay; rw [if_neg Ho.out]; exact HO.out, HBvh.out, fun g cs hg => hg.below SB1h.out⟩
end Go.Proofs.Ytibeoeooajelgaa
