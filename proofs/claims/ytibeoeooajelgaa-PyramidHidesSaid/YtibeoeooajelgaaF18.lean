/- frame.Lay. -/
import Derived.Test.YtibeoeooajelgaaFQ
import Derived.Test.YtibeoeooajelgaaF17
import Derived.Test.YtibeoeooajelgaaQTail
namespace Go.Proofs.Ytibeoeooajelgaa
open Go.RowKit
set_option linter.unusedVariables false
/-- A colour laid over another one. -/
def ovc (c u : Nat → Int) : Nat → Int
  | 3 => lraw (wrap64 (c 3)) 255 (u 3)
  | j => lraw (wrap64 (c 3)) (c j) (u j)
def DeepP (d : Int) : Prop := -1024 ≤ d ∧ d ≤ 66560
instance (d : Int) : Decidable (DeepP d) := by unfold DeepP; infer_instance
def FD.lay (f : FD) (k : Nat) (d : Int) (c : Nat → Int) : FD := if f.I k < 0 ∨ f.D k < d then f.col k (ovc c (f.C k)) else f
def LayV (f : FD) (x y d : Int) (c : Nat → Int) (g : FD) (z : Int) : Prop :=
  (¬ f.May ∧ z = 8 ∧ g = FD0) ∨ (f.May ∧ ¬ (f.In x y ∧ DeepP d) ∧ z = 2 ∧ g = FD0) ∨ (f.May ∧ f.In x y ∧ DeepP d ∧ z = 0 ∧ ∃ k : Nat, y * f.W + x = k ∧ (k < f.nc ∧ k < f.nd ∧ k < f.ni ∧ k < f.nt) ∧ g = f.lay k d c)
theorem over_ovc (c u : Nat → Int) (w : World) : Calls Try.prog 61 #[.agg #[.int .u8 (c 0), .int .u8 (c 1), .int .u8 (c 2), .int .u8 (c 3)], .agg #[.int .u8 (u 0), .int .u8 (u 1), .int .u8 (u 2), .int .u8 (u 3)]] w fun e w' =>
    e = .returned (.agg #[.int .u8 (ovc c u 0), .int .u8 (ovc c u 1), .int .u8 (ovc c u 2), .int .u8 (ovc c u 3)]) ∧ Below w.heap.size w w' := over_raw (c 0) (c 1) (c 2) (c 3) (u 0) (u 1) (u 2) (u 3) w

set_option maxRecDepth 100000 in
set_option maxHeartbeats 8000000 in
theorem lay_frame (p : FP) (f : FD) (x y d : Int) (c : Nat → Int) (w : World) (h : FOk w p f) : Calls Try.prog 22 #[.agg #[.int .i64 f.W, .int .i64 f.H, .slice p.ac f.nc p.kc, .slice p.ad f.nd p.kd, .slice p.ai f.ni p.ki, .slice p.a4 f.nt p.kt], .int .i64 x, .int .i64 y, .int .i64 d, .agg #[.int .u8 (c 0), .int .u8 (c 1), .int .u8 (c 2), .int .u8 (c 3)]] w fun e w' => FRO (LayV f x y d c) w.heap.size e w' ∧ Below w.heap.size w w' := by
  obtain ⟨W, H, nc, nd, ni, nt, C, D, I, T⟩ := f
  obtain ⟨ac, ad, ai, a4, kc, kd, ki, kt⟩ := p
  have htw := Lib.hid (fun W' (hb : Below w.heap.size w W') => twin_any ⟨ac, ad, ai, a4, kc, kd, ki, kt⟩ ⟨W, H, nc, nd, ni, nt, C, D, I, T⟩ x y W' (h.below hb))
  clear h
  dsimp only at htw ⊢
  go_enter Try.func22, Try.ntmps22
  go_wp2_with fail
  have NE_P_K := Lib.hid (show w.heap.size ≠ w.heap.size + 1 by omega)
  have NE_P_R := Lib.hid (show w.heap.size ≠ w.heap.size + 1 + 1 by omega)
  have NE_K_R := Lib.hid (show w.heap.size + 1 ≠ w.heap.size + 1 + 1 by omega)
  have s_P : HasBlk (w.alloc (.cells #[.int .i64 W, .int .i64 H, .slice ac nc kc, .slice ad nd kd, .slice ai ni ki, .slice a4 nt kt] 29)) (w.heap.size) 29 #[.int .i64 W, .int .i64 H, .slice ac nc kc, .slice ad nd kd, .slice ai ni ki, .slice a4 nt kt] := by simpa using hasBlk_new w 29 #[.int .i64 W, .int .i64 H, .slice ac nc kc, .slice ad nd kd, .slice ai ni ki, .slice a4 nt kt]
  replace s_P := s_P.alloc (.cells #[.int .u8 (c 0), .int .u8 (c 1), .int .u8 (c 2), .int .u8 (c 3)] 23)
  have s_K : HasBlk ((w.alloc (.cells #[.int .i64 W, .int .i64 H, .slice ac nc kc, .slice ad nd kd, .slice ai ni ki, .slice a4 nt kt] 29)).alloc (.cells #[.int .u8 (c 0), .int .u8 (c 1), .int .u8 (c 2), .int .u8 (c 3)] 23)) (w.heap.size + 1) 23 #[.int .u8 (c 0), .int .u8 (c 1), .int .u8 (c 2), .int .u8 (c 3)] := by simpa using hasBlk_new (w.alloc (.cells #[.int .i64 W, .int .i64 H, .slice ac nc kc, .slice ad nd kd, .slice ai ni ki, .slice a4 nt kt] 29)) 23 #[.int .u8 (c 0), .int .u8 (c 1), .int .u8 (c 2), .int .u8 (c 3)]
  replace s_P := s_P.alloc (.cells #[.int .i64 0, .int .i64 0, .slice none 0 0, .slice none 0 0, .slice none 0 0, .slice none 0 0] 29)
  replace s_K := s_K.alloc (.cells #[.int .i64 0, .int .i64 0, .slice none 0 0, .slice none 0 0, .slice none 0 0, .slice none 0 0] 29)
  have s_R : HasBlk (((w.alloc (.cells #[.int .i64 W, .int .i64 H, .slice ac nc kc, .slice ad nd kd, .slice ai ni ki, .slice a4 nt kt] 29)).alloc (.cells #[.int .u8 (c 0), .int .u8 (c 1), .int .u8 (c 2), .int .u8 (c 3)] 23)).alloc (.cells #[.int .i64 0, .int .i64 0, .slice none 0 0, .slice none 0 0, .slice none 0 0, .slice none 0 0] 29)) (w.heap.size + 1 + 1) 29 #[.int .i64 0, .int .i64 0, .slice none 0 0, .slice none 0 0, .slice none 0 0, .slice none 0 0] := by simpa using hasBlk_new ((w.alloc (.cells #[.int .i64 W, .int .i64 H, .slice ac nc kc, .slice ad nd kd, .slice ai ni ki, .slice a4 nt kt] 29)).alloc (.cells #[.int .u8 (c 0), .int .u8 (c 1), .int .u8 (c 2), .int .u8 (c 3)] 23)) 29 #[.int .i64 0, .int .i64 0, .slice none 0 0, .slice none 0 0, .slice none 0 0, .slice none 0 0]
  have t_P : HasBlk (((w.alloc (.cells #[.int .i64 W, .int .i64 H, .slice ac nc kc, .slice ad nd kd, .slice ai ni ki, .slice a4 nt kt] 29)).alloc (.cells #[.int .u8 (c 0), .int .u8 (c 1), .int .u8 (c 2), .int .u8 (c 3)] 23)).alloc (.cells #[.int .i64 0, .int .i64 0, .slice none 0 0, .slice none 0 0, .slice none 0 0, .slice none 0 0] 29)) (w.heap.size) 29 #[.int .i64 W, .int .i64 H, .slice ac nc kc, .slice ad nd kd, .slice ai ni ki, .slice a4 nt kt] := by simpa using s_P
  clear s_P
  have t_K : HasBlk (((w.alloc (.cells #[.int .i64 W, .int .i64 H, .slice ac nc kc, .slice ad nd kd, .slice ai ni ki, .slice a4 nt kt] 29)).alloc (.cells #[.int .u8 (c 0), .int .u8 (c 1), .int .u8 (c 2), .int .u8 (c 3)] 23)).alloc (.cells #[.int .i64 0, .int .i64 0, .slice none 0 0, .slice none 0 0, .slice none 0 0, .slice none 0 0] 29)) (w.heap.size + 1) 23 #[.int .u8 (c 0), .int .u8 (c 1), .int .u8 (c 2), .int .u8 (c 3)] := by simpa using s_K
  clear s_K
  have t_R : HasBlk (((w.alloc (.cells #[.int .i64 W, .int .i64 H, .slice ac nc kc, .slice ad nd kd, .slice ai ni ki, .slice a4 nt kt] 29)).alloc (.cells #[.int .u8 (c 0), .int .u8 (c 1), .int .u8 (c 2), .int .u8 (c 3)] 23)).alloc (.cells #[.int .i64 0, .int .i64 0, .slice none 0 0, .slice none 0 0, .slice none 0 0, .slice none 0 0] 29)) (w.heap.size + 1 + 1) 29 #[.int .i64 0, .int .i64 0, .slice none 0 0, .slice none 0 0, .slice none 0 0, .slice none 0 0] := by simpa using s_R
  clear s_R
  have SB1 : Below w.heap.size w (((w.alloc (.cells #[.int .i64 W, .int .i64 H, .slice ac nc kc, .slice ad nd kd, .slice ai ni ki, .slice a4 nt kt] 29)).alloc (.cells #[.int .u8 (c 0), .int .u8 (c 1), .int .u8 (c 2), .int .u8 (c 3)] 23)).alloc (.cells #[.int .i64 0, .int .i64 0, .slice none 0 0, .slice none 0 0, .slice none 0 0, .slice none 0 0] 29)) := by
    repeat' (first | exact Below.refl _ _ | assumption | apply Below.drew | refine Below.setCell ?_ (by first | omega | (simp; done) | (simp; omega)) _ | refine Below.alloc ?_ (by first | omega | (simp; done) | (simp; omega)) _)
  generalize gW_v0 : (((w.alloc (.cells #[.int .i64 W, .int .i64 H, .slice ac nc kc, .slice ad nd kd, .slice ai ni ki, .slice a4 nt kt] 29)).alloc (.cells #[.int .u8 (c 0), .int .u8 (c 1), .int .u8 (c 2), .int .u8 (c 3)] 23)).alloc (.cells #[.int .i64 0, .int .i64 0, .slice none 0 0, .slice none 0 0, .slice none 0 0, .slice none 0 0] 29)) = v0 at *
  clear gW_v0
  have P := Lib.hid t_P
  clear t_P
  have K := Lib.hid t_K
  clear t_K
  have R := Lib.hid t_R
  clear t_R
  have SB1h := Lib.hid SB1
  clear SB1
  have SB1h9 : w.heap.size ≤ v0.heap.size := SB1h.out.size
  have ltR0 := R.out.lt
  refine (htw.out _ SB1h.out).mono ?_
  rintro e w1 ⟨hx, bel1⟩
  clear htw
  have t_P := P.out.below bel1
  clear P
  have P := Lib.hid t_P
  clear t_P
  have t_K := K.out.below bel1
  clear K
  have K := Lib.hid t_K
  clear t_K
  have t_R := R.out.below bel1
  clear R
  have R := Lib.hid t_R
  clear t_R
  have SB2 : Below w.heap.size w w1 := SB1h.out.trans (bel1.mono SB1h.out.size)
  clear SB1h
  have SB2h := Lib.hid SB2
  clear SB2 bel1
  have lt_P := P.out.lt
  have P_0 := P.out.cell 0
  have P_1 := P.out.cell 1
  have P_2 := P.out.cell 2
  have P_3 := P.out.cell 3
  have P_4 := P.out.cell 4
  have P_5 := P.out.cell 5
  have P_f0 := P.out.frozen 0
  have P_f1 := P.out.frozen 1
  have P_f2 := P.out.frozen 2
  have P_f3 := P.out.frozen 3
  have P_f4 := P.out.frozen 4
  have P_f5 := P.out.frozen 5
  simp at P_0 P_1 P_2 P_3 P_4 P_5
  have lt_K := K.out.lt
  have K_0 := K.out.cell 0
  have K_1 := K.out.cell 1
  have K_2 := K.out.cell 2
  have K_3 := K.out.cell 3
  simp at K_0 K_1 K_2 K_3
  have lt_R := R.out.lt
  have R_0 := R.out.cell 0
  have R_1 := R.out.cell 1
  have R_2 := R.out.cell 2
  have R_3 := R.out.cell 3
  have R_4 := R.out.cell 4
  have R_5 := R.out.cell 5
  have R_f0 := R.out.frozen 0
  have R_f1 := R.out.frozen 1
  have R_f2 := R.out.frozen 2
  have R_f3 := R.out.frozen 3
  have R_f4 := R.out.frozen 4
  have R_f5 := R.out.frozen 5
  simp at R_0 R_1 R_2 R_3 R_4 R_5
  have szB_w1 := SB2h.out.size
  rcases hx with ⟨hm, rfl⟩ | ⟨hm, hi, rfl⟩ | ⟨hm, hi, ⟨qc, qd, qi, qt, jc, jd, ji, jt⟩, k, hk, ⟨hk1, hk2, hk3, hk4⟩, rfl, ho⟩
  · have Hm := Lib.hid hm
    clear hm
    go_wp2
    refine bodyPost_ret (v := .tuple #[.agg #[.int .i64 0, .int .i64 0, .slice none 0 0, .slice none 0 0, .slice none 0 0, .slice none 0 0], .int .i64 8]) (by simp [results, Try.results22, go_sem, *]) rfl ⟨FRO.zero (.inl ⟨Hm.out, rfl, rfl⟩), ?_⟩
    exact Below.alloc (Below.setCell (p := ⟨w.heap.size + 1 + 1, 5, none⟩) (Below.setCell (p := ⟨w.heap.size + 1 + 1, 4, none⟩) (Below.setCell (p := ⟨w.heap.size + 1 + 1, 3, none⟩) (Below.setCell (p := ⟨w.heap.size + 1 + 1, 2, none⟩) (Below.setCell (p := ⟨w.heap.size + 1 + 1, 1, none⟩) (Below.setCell (p := ⟨w.heap.size + 1 + 1, 0, none⟩) SB2h.out (by show w.heap.size ≤ w.heap.size + 1 + 1; omega) _) (by show w.heap.size ≤ w.heap.size + 1 + 1; omega) _) (by show w.heap.size ≤ w.heap.size + 1 + 1; omega) _) (by show w.heap.size ≤ w.heap.size + 1 + 1; omega) _) (by show w.heap.size ≤ w.heap.size + 1 + 1; omega) _) (by show w.heap.size ≤ w.heap.size + 1 + 1; omega) _) (by simpa using SB2h.out.size) _
  · have Hm := Lib.hid (And.intro hm hi)
    clear hm hi
    go_wp2
    refine bodyPost_ret (v := .tuple #[.agg #[.int .i64 0, .int .i64 0, .slice none 0 0, .slice none 0 0, .slice none 0 0, .slice none 0 0], .int .i64 2]) (by simp [results, Try.results22, go_sem, *]) rfl ⟨FRO.zero (.inr (.inl ⟨Hm.out.1, fun z => Hm.out.2 z.1, rfl, rfl⟩)), ?_⟩
    exact Below.alloc (Below.setCell (p := ⟨w.heap.size + 1 + 1, 5, none⟩) (Below.setCell (p := ⟨w.heap.size + 1 + 1, 4, none⟩) (Below.setCell (p := ⟨w.heap.size + 1 + 1, 3, none⟩) (Below.setCell (p := ⟨w.heap.size + 1 + 1, 2, none⟩) (Below.setCell (p := ⟨w.heap.size + 1 + 1, 1, none⟩) (Below.setCell (p := ⟨w.heap.size + 1 + 1, 0, none⟩) SB2h.out (by show w.heap.size ≤ w.heap.size + 1 + 1; omega) _) (by show w.heap.size ≤ w.heap.size + 1 + 1; omega) _) (by show w.heap.size ≤ w.heap.size + 1 + 1; omega) _) (by show w.heap.size ≤ w.heap.size + 1 + 1; omega) _) (by show w.heap.size ≤ w.heap.size + 1 + 1; omega) _) (by show w.heap.size ≤ w.heap.size + 1 + 1; omega) _) (by simpa using SB2h.out.size) _
  obtain ⟨xc, xd, xi, xt, ⟨eqc, eqd, eqi, eqt⟩, hge, hlt0, hne, _⟩ := FOwn.store ho hk1 hk2 hk3 hk4
  dsimp only at eqc eqd eqi eqt hk hk1 hk2 hk3 hk4 hge hne
  subst eqc eqd eqi eqt
  have HO := Lib.hid ho
  have Hm := Lib.hid (And.intro hm hi)
  have Hk := Lib.hid (And.intro hk (And.intro hk1 (And.intro hk2 (And.intro hk3 hk4))))
  have Hge := Lib.hid hge
  have Hlt0 := Lib.hid hlt0
  clear hlt0
  have hkb : k < nc := hk1
  clear ho hm hi hk hge hne
  dsimp only
  go_wp2_with fail
  have HOa := HO.out.below ((Below.refl w1.heap.size w1).alloc (Nat.le_refl _) (.cells #[.int .i64 W, .int .i64 H, .slice (some ⟨xc, 0, none⟩) nc jc, .slice (some ⟨xd, 0, none⟩) nd jd, .slice (some ⟨xi, 0, none⟩) ni ji, .slice (some ⟨xt, 0, none⟩) nt jt] 90))
  clear HO
  have NE_P_O := Lib.hid (show w.heap.size ≠ w1.heap.size by omega)
  have NE_K_O := Lib.hid (show w.heap.size + 1 ≠ w1.heap.size by omega)
  have NE_R_O := Lib.hid (show w.heap.size + 1 + 1 ≠ w1.heap.size by omega)
  have s_P := P.out
  have s_K := K.out
  have s_R := R.out
  replace s_P := s_P.alloc (.cells #[.int .i64 W, .int .i64 H, .slice (some ⟨xc, 0, none⟩) nc jc, .slice (some ⟨xd, 0, none⟩) nd jd, .slice (some ⟨xi, 0, none⟩) ni ji, .slice (some ⟨xt, 0, none⟩) nt jt] 90)
  replace s_K := s_K.alloc (.cells #[.int .i64 W, .int .i64 H, .slice (some ⟨xc, 0, none⟩) nc jc, .slice (some ⟨xd, 0, none⟩) nd jd, .slice (some ⟨xi, 0, none⟩) ni ji, .slice (some ⟨xt, 0, none⟩) nt jt] 90)
  replace s_R := s_R.alloc (.cells #[.int .i64 W, .int .i64 H, .slice (some ⟨xc, 0, none⟩) nc jc, .slice (some ⟨xd, 0, none⟩) nd jd, .slice (some ⟨xi, 0, none⟩) ni ji, .slice (some ⟨xt, 0, none⟩) nt jt] 90)
  have s_O : HasBlk (w1.alloc (.cells #[.int .i64 W, .int .i64 H, .slice (some ⟨xc, 0, none⟩) nc jc, .slice (some ⟨xd, 0, none⟩) nd jd, .slice (some ⟨xi, 0, none⟩) ni ji, .slice (some ⟨xt, 0, none⟩) nt jt] 90)) (w1.heap.size) 90 #[.int .i64 W, .int .i64 H, .slice (some ⟨xc, 0, none⟩) nc jc, .slice (some ⟨xd, 0, none⟩) nd jd, .slice (some ⟨xi, 0, none⟩) ni ji, .slice (some ⟨xt, 0, none⟩) nt jt] := by simpa using hasBlk_new w1 90 #[.int .i64 W, .int .i64 H, .slice (some ⟨xc, 0, none⟩) nc jc, .slice (some ⟨xd, 0, none⟩) nd jd, .slice (some ⟨xi, 0, none⟩) ni ji, .slice (some ⟨xt, 0, none⟩) nt jt]
  have t_P : HasBlk (w1.alloc (.cells #[.int .i64 W, .int .i64 H, .slice (some ⟨xc, 0, none⟩) nc jc, .slice (some ⟨xd, 0, none⟩) nd jd, .slice (some ⟨xi, 0, none⟩) ni ji, .slice (some ⟨xt, 0, none⟩) nt jt] 90)) (w.heap.size) 29 #[.int .i64 W, .int .i64 H, .slice ac nc kc, .slice ad nd kd, .slice ai ni ki, .slice a4 nt kt] := by simpa using s_P
  clear s_P P
  have t_K : HasBlk (w1.alloc (.cells #[.int .i64 W, .int .i64 H, .slice (some ⟨xc, 0, none⟩) nc jc, .slice (some ⟨xd, 0, none⟩) nd jd, .slice (some ⟨xi, 0, none⟩) ni ji, .slice (some ⟨xt, 0, none⟩) nt jt] 90)) (w.heap.size + 1) 23 #[.int .u8 (c 0), .int .u8 (c 1), .int .u8 (c 2), .int .u8 (c 3)] := by simpa using s_K
  clear s_K K
  have t_R : HasBlk (w1.alloc (.cells #[.int .i64 W, .int .i64 H, .slice (some ⟨xc, 0, none⟩) nc jc, .slice (some ⟨xd, 0, none⟩) nd jd, .slice (some ⟨xi, 0, none⟩) ni ji, .slice (some ⟨xt, 0, none⟩) nt jt] 90)) (w.heap.size + 1 + 1) 29 #[.int .i64 0, .int .i64 0, .slice none 0 0, .slice none 0 0, .slice none 0 0, .slice none 0 0] := by simpa using s_R
  clear s_R R
  have t_O : HasBlk (w1.alloc (.cells #[.int .i64 W, .int .i64 H, .slice (some ⟨xc, 0, none⟩) nc jc, .slice (some ⟨xd, 0, none⟩) nd jd, .slice (some ⟨xi, 0, none⟩) ni ji, .slice (some ⟨xt, 0, none⟩) nt jt] 90)) (w1.heap.size) 90 #[.int .i64 W, .int .i64 H, .slice (some ⟨xc, 0, none⟩) nc jc, .slice (some ⟨xd, 0, none⟩) nd jd, .slice (some ⟨xi, 0, none⟩) ni ji, .slice (some ⟨xt, 0, none⟩) nt jt] := by simpa using s_O
  clear s_O
  have SB3 : Below w.heap.size w (w1.alloc (.cells #[.int .i64 W, .int .i64 H, .slice (some ⟨xc, 0, none⟩) nc jc, .slice (some ⟨xd, 0, none⟩) nd jd, .slice (some ⟨xi, 0, none⟩) ni ji, .slice (some ⟨xt, 0, none⟩) nt jt] 90)) := by
    have bel0 := SB2h.out
    repeat' (first | exact Below.refl _ _ | assumption | apply Below.drew | refine Below.setCell ?_ (by first | omega | (simp; done) | (simp; omega)) _ | refine Below.alloc ?_ (by first | omega | (simp; done) | (simp; omega)) _)
  clear lt_P P_0 P_1 P_2 P_3 P_4 P_5 P_f0 P_f1 P_f2 P_f3 P_f4 P_f5 lt_K K_0 K_1 K_2 K_3 lt_R R_0 R_1 R_2 R_3 R_4 R_5 R_f0 R_f1 R_f2 R_f3 R_f4 R_f5
  generalize gW_v1 : (w1.alloc (.cells #[.int .i64 W, .int .i64 H, .slice (some ⟨xc, 0, none⟩) nc jc, .slice (some ⟨xd, 0, none⟩) nd jd, .slice (some ⟨xi, 0, none⟩) ni ji, .slice (some ⟨xt, 0, none⟩) nt jt] 90)) = v1 at *
  clear gW_v1
  have P := Lib.hid t_P
  clear t_P
  have K := Lib.hid t_K
  clear t_K
  have R := Lib.hid t_R
  clear t_R
  have O := Lib.hid t_O
  clear t_O
  clear SB2h
  have SB3h := Lib.hid SB3
  clear SB3
  have HO := Lib.hid HOa
  clear HOa
  have lt_P := P.out.lt
  have P_0 := P.out.cell 0
  have P_1 := P.out.cell 1
  have P_2 := P.out.cell 2
  have P_3 := P.out.cell 3
  have P_4 := P.out.cell 4
  have P_5 := P.out.cell 5
  have P_f0 := P.out.frozen 0
  have P_f1 := P.out.frozen 1
  have P_f2 := P.out.frozen 2
  have P_f3 := P.out.frozen 3
  have P_f4 := P.out.frozen 4
  have P_f5 := P.out.frozen 5
  simp at P_0 P_1 P_2 P_3 P_4 P_5
  have lt_K := K.out.lt
  have K_0 := K.out.cell 0
  have K_1 := K.out.cell 1
  have K_2 := K.out.cell 2
  have K_3 := K.out.cell 3
  simp at K_0 K_1 K_2 K_3
  have lt_R := R.out.lt
  have R_0 := R.out.cell 0
  have R_1 := R.out.cell 1
  have R_2 := R.out.cell 2
  have R_3 := R.out.cell 3
  have R_4 := R.out.cell 4
  have R_5 := R.out.cell 5
  have R_f0 := R.out.frozen 0
  have R_f1 := R.out.frozen 1
  have R_f2 := R.out.frozen 2
  have R_f3 := R.out.frozen 3
  have R_f4 := R.out.frozen 4
  have R_f5 := R.out.frozen 5
  simp at R_0 R_1 R_2 R_3 R_4 R_5
  have lt_O := O.out.lt
  have O_0 := O.out.cell 0
  have O_1 := O.out.cell 1
  have O_2 := O.out.cell 2
  have O_3 := O.out.cell 3
  have O_4 := O.out.cell 4
  have O_5 := O.out.cell 5
  simp at O_0 O_1 O_2 O_3 O_4 O_5
  have szB_v1 := SB3h.out.size
  have hsb := deep_any d v1
  by_cases hs : DeepP d
  rotate_left
  · rw [show decide (-1024 ≤ d ∧ d ≤ 66560) = false from decide_eq_false hs] at hsb
    have Hs := Lib.hid hs
    clear hs
    refine hsb.mono ?_
    rintro e w2 ⟨rfl, hw⟩
    obtain rfl := hw.symm
    clear hsb
    go_wp2
    refine bodyPost_ret (v := .tuple #[.agg #[.int .i64 0, .int .i64 0, .slice none 0 0, .slice none 0 0, .slice none 0 0, .slice none 0 0], .int .i64 2]) (by simp [results, Try.results22, go_sem, *]) rfl ⟨FRO.zero (.inr (.inl ⟨Hm.out.1, fun z => Hs.out z.2, rfl, rfl⟩)), ?_⟩
    exact (Below.setCell (p := ⟨w.heap.size + 1 + 1, 5, none⟩) (Below.setCell (p := ⟨w.heap.size + 1 + 1, 4, none⟩) (Below.setCell (p := ⟨w.heap.size + 1 + 1, 3, none⟩) (Below.setCell (p := ⟨w.heap.size + 1 + 1, 2, none⟩) (Below.setCell (p := ⟨w.heap.size + 1 + 1, 1, none⟩) (Below.setCell (p := ⟨w.heap.size + 1 + 1, 0, none⟩) SB3h.out (by show w.heap.size ≤ w.heap.size + 1 + 1; omega) _) (by show w.heap.size ≤ w.heap.size + 1 + 1; omega) _) (by show w.heap.size ≤ w.heap.size + 1 + 1; omega) _) (by show w.heap.size ≤ w.heap.size + 1 + 1; omega) _) (by show w.heap.size ≤ w.heap.size + 1 + 1; omega) _) (by show w.heap.size ≤ w.heap.size + 1 + 1; omega) _)
  rw [show decide (-1024 ≤ d ∧ d ≤ 66560) = true from decide_eq_true hs] at hsb
  have Hs := Lib.hid hs
  clear hs
  refine hsb.mono ?_
  rintro e w2 ⟨rfl, hw⟩
  obtain rfl := hw.symm
  clear hsb
  go_wp2_with fail
  obtain ⟨qk1, qk2, qk3, qk4⟩ := Hk.out.2
  have hnb := nobody_any ⟨some ⟨xc, 0, none⟩, some ⟨xd, 0, none⟩, some ⟨xi, 0, none⟩, some ⟨xt, 0, none⟩, jc, jd, ji, jt⟩ ⟨W, H, nc, nd, ni, nt, C, D, I, T⟩ k v1 HO.out.ok.2.2.1 qk3
  dsimp only at hnb qk1 qk2 qk3 qk4
  have hj0 : (0 : Int) ≤ (k : Int) := by omega
  have hj1 : (k : Int) < (nd : Int) := by omega
  have hjc : (k : Int) < (nc : Int) := by omega
  clear lt_P P_0 P_1 P_2 P_3 P_4 P_5 P_f0 P_f1 P_f2 P_f3 P_f4 P_f5 lt_K K_0 K_1 K_2 K_3 lt_R R_0 R_1 R_2 R_3 R_4 R_5 R_f0 R_f1 R_f2 R_f3 R_f4 R_f5 lt_O O_0 O_1 O_2 O_3 O_4 O_5
  by_cases hI : I k < 0
  · have Ho := Lib.hid (show I k < 0 ∨ D k < d from .inl hI)
    rw [decide_eq_true hI] at hnb
    refine (hnb).mono ?_
    rintro e w3 ⟨rfl, bel3⟩
    clear hnb
    have HOa := HO.out.below bel3
    clear HO
    have HO := Lib.hid HOa
    clear HOa
    have t_P := P.out.below bel3
    clear P
    have P := Lib.hid t_P
    clear t_P
    have t_K := K.out.below bel3
    clear K
    have K := Lib.hid t_K
    clear t_K
    have t_R := R.out.below bel3
    clear R
    have R := Lib.hid t_R
    clear t_R
    have t_O := O.out.below bel3
    clear O
    have O := Lib.hid t_O
    clear t_O
    have SB4 : Below w.heap.size w w3 := SB3h.out.trans (bel3.mono SB3h.out.size)
    clear SB3h
    have SB4h := Lib.hid SB4
    clear SB4 bel3
    have lt_P := P.out.lt
    have P_0 := P.out.cell 0
    have P_1 := P.out.cell 1
    have P_2 := P.out.cell 2
    have P_3 := P.out.cell 3
    have P_4 := P.out.cell 4
    have P_5 := P.out.cell 5
    have P_f0 := P.out.frozen 0
    have P_f1 := P.out.frozen 1
    have P_f2 := P.out.frozen 2
    have P_f3 := P.out.frozen 3
    have P_f4 := P.out.frozen 4
    have P_f5 := P.out.frozen 5
    simp at P_0 P_1 P_2 P_3 P_4 P_5
    have lt_K := K.out.lt
    have K_0 := K.out.cell 0
    have K_1 := K.out.cell 1
    have K_2 := K.out.cell 2
    have K_3 := K.out.cell 3
    simp at K_0 K_1 K_2 K_3
    have lt_R := R.out.lt
    have R_0 := R.out.cell 0
    have R_1 := R.out.cell 1
    have R_2 := R.out.cell 2
    have R_3 := R.out.cell 3
    have R_4 := R.out.cell 4
    have R_5 := R.out.cell 5
    have R_f0 := R.out.frozen 0
    have R_f1 := R.out.frozen 1
    have R_f2 := R.out.frozen 2
    have R_f3 := R.out.frozen 3
    have R_f4 := R.out.frozen 4
    have R_f5 := R.out.frozen 5
    simp at R_0 R_1 R_2 R_3 R_4 R_5
    have lt_O := O.out.lt
    have O_0 := O.out.cell 0
    have O_1 := O.out.cell 1
    have O_2 := O.out.cell 2
    have O_3 := O.out.cell 3
    have O_4 := O.out.cell 4
    have O_5 := O.out.cell 5
    simp at O_0 O_1 O_2 O_3 O_4 O_5
    have szB_w3 := SB4h.out.size
    go_wp2_with fail
    obtain ⟨zc, zd, zi, zt, ⟨ea, eb, ec, ed⟩, _, ⟨mc, md, mi, mt⟩, _, _, ⟨cC, _, _, _⟩, _, _⟩ := FOwn.store HO.out qk1 qk2 qk3 qk4
    dsimp only at ea eb ec ed cC
    cases ea
    cases eb
    cases ec
    cases ed
    have s0 := cC 0 (by omega)
    have s1 := cC 1 (by omega)
    have s2 := cC 2 (by omega)
    have s3 := cC 3 (by omega)
    simp only [Nat.add_zero] at s0
    clear cC
    have pS0 := fun b : BW w3 => BW.cell s0 mc b
    have pS1 := fun b : BW w3 => BW.cell s1 mc b
    have pS2 := fun b : BW w3 => BW.cell s2 mc b
    have pS3 := fun b : BW w3 => BW.cell s3 mc b
    have pO2 := fun b : BW w3 => BW.cell O_2 lt_O b
    have pK0 := fun b : BW w3 => BW.cell K_0 lt_K b
    have pK1 := fun b : BW w3 => BW.cell K_1 lt_K b
    have pK2 := fun b : BW w3 => BW.cell K_2 lt_K b
    have pK3 := fun b : BW w3 => BW.cell K_3 lt_K b
    have kO := Lib.hid (fun b : BW w3 => BW.call (v := .agg #[.int .u8 (ovc c (C k) 0), .int .u8 (ovc c (C k) 1), .int .u8 (ovc c (C k) 2), .int .u8 (ovc c (C k) 3)]) (fun W' (h : Below w3.heap.size w3 W') => over_ovc c (C k) W') b)
    clear lt_P P_0 P_1 P_2 P_3 P_4 P_5 P_f0 P_f1 P_f2 P_f3 P_f4 P_f5 lt_K K_0 K_1 K_2 K_3 lt_R R_0 R_1 R_2 R_3 R_4 R_5 R_f0 R_f1 R_f2 R_f3 R_f4 R_f5 lt_O O_0 O_1 O_2 O_3 O_4 O_5 s0 s1 s2 s3
    refine wp_region_bw_tail 13 (by kernel_rfl) (by kernel_rfl) ?_
    simp only [List.take_succ_cons, List.take_zero, List.drop_succ_cons, List.drop_zero]
    repeat (go_big_quiet_step ((go_at_call 61; with_reducible exact kO.out _)))
    refine wpQuiet_nil ?_
    intro _ hw'
    obtain ⟨pq, hw''⟩ := hw'
    subst hw''
    have hpq := Lib.hid pq.h
    clear pS0 pS1 pS2 pS3 pO2 pK0 pK1 pK2 pK3 kO
    have HO4 := Lib.hid (HO.out.below pq.h)
    have O4 := Lib.hid (O.out.below pq.h)
    have R4 := Lib.hid (R.out.below pq.h)
    have HB4 := Lib.hid (SB4h.out.trans (pq.h.mono SB4h.out.size))
    generalize pq.W = w4 at *
    clear hpq pq
    obtain ⟨zc, zd, zi, zt, ⟨ea, eb, ec, ed⟩, _, _, _, ⟨fc, _, _, _⟩, ⟨cC, _, _, _⟩, hset, _⟩ := FOwn.store HO4.out qk1 qk2 qk3 qk4
    dsimp only at ea eb ec ed cC
    cases ea
    cases eb
    cases ec
    cases ed
    have tc0 : CT w4 xc (k * 4) _ := ⟨cC 0 (by omega), fc (k * 4)⟩
    have tc1 : CT w4 xc (k * 4 + 1) _ := ⟨cC 1 (by omega), fc (k * 4 + 1)⟩
    have tc2 : CT w4 xc (k * 4 + 2) _ := ⟨cC 2 (by omega), fc (k * 4 + 2)⟩
    have tc3 : CT w4 xc (k * 4 + 3) _ := ⟨cC 3 (by omega), fc (k * 4 + 3)⟩
    have hs4 := hset (ovc c (C k))
    simp only [Nat.add_zero] at hs4
    have HS4 := Lib.hid hs4
    clear cC fc hset hs4
    have zo : xc ≠ w1.heap.size := by have := Hlt0.out; omega
    have zr : xc ≠ w.heap.size + 1 + 1 := by have := Hge.out; omega
    have lxc : w.heap.size ≤ xc := by have := Hge.out; omega
    have O5 : HasBlk ((((w4.setCell ⟨xc, k * 4, none⟩ (.int .u8 (ovc c (C k) 0))).setCell ⟨xc, k * 4 + 1, none⟩ (.int .u8 (ovc c (C k) 1))).setCell ⟨xc, k * 4 + 2, none⟩ (.int .u8 (ovc c (C k) 2))).setCell ⟨xc, k * 4 + 3, none⟩ (.int .u8 (ovc c (C k) 3))) (w1.heap.size) 90 #[.int .i64 W, .int .i64 H, .slice (some ⟨xc, 0, none⟩) nc jc, .slice (some ⟨xd, 0, none⟩) nd jd, .slice (some ⟨xi, 0, none⟩) ni ji, .slice (some ⟨xt, 0, none⟩) nt jt] := (((O4.out.far (p := ⟨xc, k * 4, none⟩) zo _).far (p := ⟨xc, k * 4 + 1, none⟩) zo _).far (p := ⟨xc, k * 4 + 2, none⟩) zo _).far (p := ⟨xc, k * 4 + 3, none⟩) zo _
    have R5 : HasBlk ((((w4.setCell ⟨xc, k * 4, none⟩ (.int .u8 (ovc c (C k) 0))).setCell ⟨xc, k * 4 + 1, none⟩ (.int .u8 (ovc c (C k) 1))).setCell ⟨xc, k * 4 + 2, none⟩ (.int .u8 (ovc c (C k) 2))).setCell ⟨xc, k * 4 + 3, none⟩ (.int .u8 (ovc c (C k) 3))) (w.heap.size + 1 + 1) 29 #[.int .i64 0, .int .i64 0, .slice none 0 0, .slice none 0 0, .slice none 0 0, .slice none 0 0] := (((R4.out.far (p := ⟨xc, k * 4, none⟩) zr _).far (p := ⟨xc, k * 4 + 1, none⟩) zr _).far (p := ⟨xc, k * 4 + 2, none⟩) zr _).far (p := ⟨xc, k * 4 + 3, none⟩) zr _
    have HB5 : Below w.heap.size w ((((w4.setCell ⟨xc, k * 4, none⟩ (.int .u8 (ovc c (C k) 0))).setCell ⟨xc, k * 4 + 1, none⟩ (.int .u8 (ovc c (C k) 1))).setCell ⟨xc, k * 4 + 2, none⟩ (.int .u8 (ovc c (C k) 2))).setCell ⟨xc, k * 4 + 3, none⟩ (.int .u8 (ovc c (C k) 3))) := Below.setCell (p := ⟨xc, k * 4 + 3, none⟩) (Below.setCell (p := ⟨xc, k * 4 + 2, none⟩) (Below.setCell (p := ⟨xc, k * 4 + 1, none⟩) (Below.setCell (p := ⟨xc, k * 4, none⟩) HB4.out lxc _) lxc _) lxc _) lxc _
    have HP : FOwn v0.heap.size ((((w4.setCell ⟨xc, k * 4, none⟩ (.int .u8 (ovc c (C k) 0))).setCell ⟨xc, k * 4 + 1, none⟩ (.int .u8 (ovc c (C k) 1))).setCell ⟨xc, k * 4 + 2, none⟩ (.int .u8 (ovc c (C k) 2))).setCell ⟨xc, k * 4 + 3, none⟩ (.int .u8 (ovc c (C k) 3))) ⟨some ⟨xc, 0, none⟩, some ⟨xd, 0, none⟩, some ⟨xi, 0, none⟩, some ⟨xt, 0, none⟩, jc, jd, ji, jt⟩ (FD.col ⟨W, H, nc, nd, ni, nt, C, D, I, T⟩ k (ovc c (C k))) := HS4.out
    have e := st4 (a := ovc c (C k) 0) (b := ovc c (C k) 1) (c := ovc c (C k) 2) (d := ovc c (C k) 3) tc0 tc1 tc2 tc3
    simp [go_sem] at e
    obtain ⟨w5, hw5⟩ : ∃ w5, w5 = ((((w4.setCell ⟨xc, k * 4, none⟩ (.int .u8 (ovc c (C k) 0))).setCell ⟨xc, k * 4 + 1, none⟩ (.int .u8 (ovc c (C k) 1))).setCell ⟨xc, k * 4 + 2, none⟩ (.int .u8 (ovc c (C k) 2))).setCell ⟨xc, k * 4 + 3, none⟩ (.int .u8 (ovc c (C k) 3))) := ⟨_, rfl⟩
    rw [← hw5] at O5 R5 HB5 HP e
    have e := Lib.hid e
    clear hw5 HS4 tc0 tc1 tc2 tc3 HO4 O4 R4 HB4
    have HP := Lib.hid HP
    have HB5 := Lib.hid HB5
    have o_0 := O5.cell 0
    have o_f0 := R5.frozen 0
    have o_r0 := R5.cell 0
    have o_1 := O5.cell 1
    have o_f1 := R5.frozen 1
    have o_r1 := R5.cell 1
    have o_2 := O5.cell 2
    have o_f2 := R5.frozen 2
    have o_r2 := R5.cell 2
    have o_3 := O5.cell 3
    have o_f3 := R5.frozen 3
    have o_r3 := R5.cell 3
    have o_4 := O5.cell 4
    have o_f4 := R5.frozen 4
    have o_r4 := R5.cell 4
    have o_5 := O5.cell 5
    have o_f5 := R5.frozen 5
    have o_r5 := R5.cell 5
    simp at o_0 o_1 o_2 o_3 o_4 o_5 o_r0 o_r1 o_r2 o_r3 o_r4 o_r5
    clear O5 R5 zo zr lxc
    go_wp2_with (refine upon_store e.out ?_)
    refine bodyPost_ret (v := .tuple #[.agg #[.int .i64 W, .int .i64 H, .slice (some ⟨xc, 0, none⟩) nc jc, .slice (some ⟨xd, 0, none⟩) nd jd, .slice (some ⟨xi, 0, none⟩) ni ji, .slice (some ⟨xt, 0, none⟩) nt jt], .int .i64 0]) (by simp [results, Try.results22, go_sem, *]) rfl ⟨⟨⟨some ⟨xc, 0, none⟩, some ⟨xd, 0, none⟩, some ⟨xi, 0, none⟩, some ⟨xt, 0, none⟩, jc, jd, ji, jt⟩, FD.col ⟨W, H, nc, nd, ni, nt, C, D, I, T⟩ k (ovc c (C k)), 0, rfl, FOwn.base (FOwn.far (g := w.heap.size + 1 + 1) (j := 5) (FOwn.far (g := w.heap.size + 1 + 1) (j := 4) (FOwn.far (g := w.heap.size + 1 + 1) (j := 3) (FOwn.far (g := w.heap.size + 1 + 1) (j := 2) (FOwn.far (g := w.heap.size + 1 + 1) (j := 1) (FOwn.far (g := w.heap.size + 1 + 1) (j := 0) HP.out ltR0 _) ltR0 _) ltR0 _) ltR0 _) ltR0 _) ltR0 _) SB1h9, .inr (.inr ⟨Hm.out.1, Hm.out.2, Hs.out, rfl, k, Hk.out.1, ⟨qk1, qk2, qk3, qk4⟩, by unfold FD.lay; rw [if_pos Ho.out]⟩)⟩, ?_⟩
    exact (Below.setCell (p := ⟨w.heap.size + 1 + 1, 5, none⟩) (Below.setCell (p := ⟨w.heap.size + 1 + 1, 4, none⟩) (Below.setCell (p := ⟨w.heap.size + 1 + 1, 3, none⟩) (Below.setCell (p := ⟨w.heap.size + 1 + 1, 2, none⟩) (Below.setCell (p := ⟨w.heap.size + 1 + 1, 1, none⟩) (Below.setCell (p := ⟨w.heap.size + 1 + 1, 0, none⟩) HB5.out (by show w.heap.size ≤ w.heap.size + 1 + 1; omega) _) (by show w.heap.size ≤ w.heap.size + 1 + 1; omega) _) (by show w.heap.size ≤ w.heap.size + 1 + 1; omega) _) (by show w.heap.size ≤ w.heap.size + 1 + 1; omega) _) (by show w.heap.size ≤ w.heap.size + 1 + 1; omega) _) (by show w.heap.size ≤ w.heap.size + 1 + 1; omega) _)
  by_cases hD : D k < d
  · have gD : decide (D k < d) = true := decide_eq_true hD
    have Ho := Lib.hid (show I k < 0 ∨ D k < d from .inr hD)
    rw [decide_eq_false hI] at hnb
    refine (hnb).mono ?_
    rintro e w3 ⟨rfl, bel3⟩
    clear hnb
    have HOa := HO.out.below bel3
    clear HO
    have HO := Lib.hid HOa
    clear HOa
    have t_P := P.out.below bel3
    clear P
    have P := Lib.hid t_P
    clear t_P
    have t_K := K.out.below bel3
    clear K
    have K := Lib.hid t_K
    clear t_K
    have t_R := R.out.below bel3
    clear R
    have R := Lib.hid t_R
    clear t_R
    have t_O := O.out.below bel3
    clear O
    have O := Lib.hid t_O
    clear t_O
    have SB4 : Below w.heap.size w w3 := SB3h.out.trans (bel3.mono SB3h.out.size)
    clear SB3h
    have SB4h := Lib.hid SB4
    clear SB4 bel3
    have lt_P := P.out.lt
    have P_0 := P.out.cell 0
    have P_1 := P.out.cell 1
    have P_2 := P.out.cell 2
    have P_3 := P.out.cell 3
    have P_4 := P.out.cell 4
    have P_5 := P.out.cell 5
    have P_f0 := P.out.frozen 0
    have P_f1 := P.out.frozen 1
    have P_f2 := P.out.frozen 2
    have P_f3 := P.out.frozen 3
    have P_f4 := P.out.frozen 4
    have P_f5 := P.out.frozen 5
    simp at P_0 P_1 P_2 P_3 P_4 P_5
    have lt_K := K.out.lt
    have K_0 := K.out.cell 0
    have K_1 := K.out.cell 1
    have K_2 := K.out.cell 2
    have K_3 := K.out.cell 3
    simp at K_0 K_1 K_2 K_3
    have lt_R := R.out.lt
    have R_0 := R.out.cell 0
    have R_1 := R.out.cell 1
    have R_2 := R.out.cell 2
    have R_3 := R.out.cell 3
    have R_4 := R.out.cell 4
    have R_5 := R.out.cell 5
    have R_f0 := R.out.frozen 0
    have R_f1 := R.out.frozen 1
    have R_f2 := R.out.frozen 2
    have R_f3 := R.out.frozen 3
    have R_f4 := R.out.frozen 4
    have R_f5 := R.out.frozen 5
    simp at R_0 R_1 R_2 R_3 R_4 R_5
    have lt_O := O.out.lt
    have O_0 := O.out.cell 0
    have O_1 := O.out.cell 1
    have O_2 := O.out.cell 2
    have O_3 := O.out.cell 3
    have O_4 := O.out.cell 4
    have O_5 := O.out.cell 5
    simp at O_0 O_1 O_2 O_3 O_4 O_5
    have szB_w3 := SB4h.out.size
    obtain ⟨gd, od, eD, ld, rD⟩ := HO.out.ok.2.1 (by show 0 < nd; omega)
    dsimp only at eD rD
    cases eD
    have xd_ := rD k (by omega)
    simp only [Nat.zero_add] at xd_
    clear rD
    clear hD hI
    go_wp2_with fail
    obtain ⟨zc, zd, zi, zt, ⟨ea, eb, ec, ed⟩, _, ⟨mc, md, mi, mt⟩, _, _, ⟨cC, _, _, _⟩, _, _⟩ := FOwn.store HO.out qk1 qk2 qk3 qk4
    dsimp only at ea eb ec ed cC
    cases ea
    cases eb
    cases ec
    cases ed
    have s0 := cC 0 (by omega)
    have s1 := cC 1 (by omega)
    have s2 := cC 2 (by omega)
    have s3 := cC 3 (by omega)
    simp only [Nat.add_zero] at s0
    clear cC
    have pS0 := fun b : BW w3 => BW.cell s0 mc b
    have pS1 := fun b : BW w3 => BW.cell s1 mc b
    have pS2 := fun b : BW w3 => BW.cell s2 mc b
    have pS3 := fun b : BW w3 => BW.cell s3 mc b
    have pO2 := fun b : BW w3 => BW.cell O_2 lt_O b
    have pK0 := fun b : BW w3 => BW.cell K_0 lt_K b
    have pK1 := fun b : BW w3 => BW.cell K_1 lt_K b
    have pK2 := fun b : BW w3 => BW.cell K_2 lt_K b
    have pK3 := fun b : BW w3 => BW.cell K_3 lt_K b
    have kO := Lib.hid (fun b : BW w3 => BW.call (v := .agg #[.int .u8 (ovc c (C k) 0), .int .u8 (ovc c (C k) 1), .int .u8 (ovc c (C k) 2), .int .u8 (ovc c (C k) 3)]) (fun W' (h : Below w3.heap.size w3 W') => over_ovc c (C k) W') b)
    clear lt_P P_0 P_1 P_2 P_3 P_4 P_5 P_f0 P_f1 P_f2 P_f3 P_f4 P_f5 lt_K K_0 K_1 K_2 K_3 lt_R R_0 R_1 R_2 R_3 R_4 R_5 R_f0 R_f1 R_f2 R_f3 R_f4 R_f5 lt_O O_0 O_1 O_2 O_3 O_4 O_5 s0 s1 s2 s3
    refine wp_region_bw_tail 13 (by kernel_rfl) (by kernel_rfl) ?_
    simp only [List.take_succ_cons, List.take_zero, List.drop_succ_cons, List.drop_zero]
    repeat (go_big_quiet_step ((go_at_call 61; with_reducible exact kO.out _)))
    refine wpQuiet_nil ?_
    intro _ hw'
    obtain ⟨pq, hw''⟩ := hw'
    subst hw''
    have hpq := Lib.hid pq.h
    clear pS0 pS1 pS2 pS3 pO2 pK0 pK1 pK2 pK3 kO
    have HO4 := Lib.hid (HO.out.below pq.h)
    have O4 := Lib.hid (O.out.below pq.h)
    have R4 := Lib.hid (R.out.below pq.h)
    have HB4 := Lib.hid (SB4h.out.trans (pq.h.mono SB4h.out.size))
    generalize pq.W = w4 at *
    clear hpq pq
    obtain ⟨zc, zd, zi, zt, ⟨ea, eb, ec, ed⟩, _, _, _, ⟨fc, _, _, _⟩, ⟨cC, _, _, _⟩, hset, _⟩ := FOwn.store HO4.out qk1 qk2 qk3 qk4
    dsimp only at ea eb ec ed cC
    cases ea
    cases eb
    cases ec
    cases ed
    have tc0 : CT w4 xc (k * 4) _ := ⟨cC 0 (by omega), fc (k * 4)⟩
    have tc1 : CT w4 xc (k * 4 + 1) _ := ⟨cC 1 (by omega), fc (k * 4 + 1)⟩
    have tc2 : CT w4 xc (k * 4 + 2) _ := ⟨cC 2 (by omega), fc (k * 4 + 2)⟩
    have tc3 : CT w4 xc (k * 4 + 3) _ := ⟨cC 3 (by omega), fc (k * 4 + 3)⟩
    have hs4 := hset (ovc c (C k))
    simp only [Nat.add_zero] at hs4
    have HS4 := Lib.hid hs4
    clear cC fc hset hs4
    have zo : xc ≠ w1.heap.size := by have := Hlt0.out; omega
    have zr : xc ≠ w.heap.size + 1 + 1 := by have := Hge.out; omega
    have lxc : w.heap.size ≤ xc := by have := Hge.out; omega
    have O5 : HasBlk ((((w4.setCell ⟨xc, k * 4, none⟩ (.int .u8 (ovc c (C k) 0))).setCell ⟨xc, k * 4 + 1, none⟩ (.int .u8 (ovc c (C k) 1))).setCell ⟨xc, k * 4 + 2, none⟩ (.int .u8 (ovc c (C k) 2))).setCell ⟨xc, k * 4 + 3, none⟩ (.int .u8 (ovc c (C k) 3))) (w1.heap.size) 90 #[.int .i64 W, .int .i64 H, .slice (some ⟨xc, 0, none⟩) nc jc, .slice (some ⟨xd, 0, none⟩) nd jd, .slice (some ⟨xi, 0, none⟩) ni ji, .slice (some ⟨xt, 0, none⟩) nt jt] := (((O4.out.far (p := ⟨xc, k * 4, none⟩) zo _).far (p := ⟨xc, k * 4 + 1, none⟩) zo _).far (p := ⟨xc, k * 4 + 2, none⟩) zo _).far (p := ⟨xc, k * 4 + 3, none⟩) zo _
    have R5 : HasBlk ((((w4.setCell ⟨xc, k * 4, none⟩ (.int .u8 (ovc c (C k) 0))).setCell ⟨xc, k * 4 + 1, none⟩ (.int .u8 (ovc c (C k) 1))).setCell ⟨xc, k * 4 + 2, none⟩ (.int .u8 (ovc c (C k) 2))).setCell ⟨xc, k * 4 + 3, none⟩ (.int .u8 (ovc c (C k) 3))) (w.heap.size + 1 + 1) 29 #[.int .i64 0, .int .i64 0, .slice none 0 0, .slice none 0 0, .slice none 0 0, .slice none 0 0] := (((R4.out.far (p := ⟨xc, k * 4, none⟩) zr _).far (p := ⟨xc, k * 4 + 1, none⟩) zr _).far (p := ⟨xc, k * 4 + 2, none⟩) zr _).far (p := ⟨xc, k * 4 + 3, none⟩) zr _
    have HB5 : Below w.heap.size w ((((w4.setCell ⟨xc, k * 4, none⟩ (.int .u8 (ovc c (C k) 0))).setCell ⟨xc, k * 4 + 1, none⟩ (.int .u8 (ovc c (C k) 1))).setCell ⟨xc, k * 4 + 2, none⟩ (.int .u8 (ovc c (C k) 2))).setCell ⟨xc, k * 4 + 3, none⟩ (.int .u8 (ovc c (C k) 3))) := Below.setCell (p := ⟨xc, k * 4 + 3, none⟩) (Below.setCell (p := ⟨xc, k * 4 + 2, none⟩) (Below.setCell (p := ⟨xc, k * 4 + 1, none⟩) (Below.setCell (p := ⟨xc, k * 4, none⟩) HB4.out lxc _) lxc _) lxc _) lxc _
    have HP : FOwn v0.heap.size ((((w4.setCell ⟨xc, k * 4, none⟩ (.int .u8 (ovc c (C k) 0))).setCell ⟨xc, k * 4 + 1, none⟩ (.int .u8 (ovc c (C k) 1))).setCell ⟨xc, k * 4 + 2, none⟩ (.int .u8 (ovc c (C k) 2))).setCell ⟨xc, k * 4 + 3, none⟩ (.int .u8 (ovc c (C k) 3))) ⟨some ⟨xc, 0, none⟩, some ⟨xd, 0, none⟩, some ⟨xi, 0, none⟩, some ⟨xt, 0, none⟩, jc, jd, ji, jt⟩ (FD.col ⟨W, H, nc, nd, ni, nt, C, D, I, T⟩ k (ovc c (C k))) := HS4.out
    have e := st4 (a := ovc c (C k) 0) (b := ovc c (C k) 1) (c := ovc c (C k) 2) (d := ovc c (C k) 3) tc0 tc1 tc2 tc3
    simp [go_sem] at e
    obtain ⟨w5, hw5⟩ : ∃ w5, w5 = ((((w4.setCell ⟨xc, k * 4, none⟩ (.int .u8 (ovc c (C k) 0))).setCell ⟨xc, k * 4 + 1, none⟩ (.int .u8 (ovc c (C k) 1))).setCell ⟨xc, k * 4 + 2, none⟩ (.int .u8 (ovc c (C k) 2))).setCell ⟨xc, k * 4 + 3, none⟩ (.int .u8 (ovc c (C k) 3))) := ⟨_, rfl⟩
    rw [← hw5] at O5 R5 HB5 HP e
    have e := Lib.hid e
    clear hw5 HS4 tc0 tc1 tc2 tc3 HO4 O4 R4 HB4
    have HP := Lib.hid HP
    have HB5 := Lib.hid HB5
    have o_0 := O5.cell 0
    have o_f0 := R5.frozen 0
    have o_r0 := R5.cell 0
    have o_1 := O5.cell 1
    have o_f1 := R5.frozen 1
    have o_r1 := R5.cell 1
    have o_2 := O5.cell 2
    have o_f2 := R5.frozen 2
    have o_r2 := R5.cell 2
    have o_3 := O5.cell 3
    have o_f3 := R5.frozen 3
    have o_r3 := R5.cell 3
    have o_4 := O5.cell 4
    have o_f4 := R5.frozen 4
    have o_r4 := R5.cell 4
    have o_5 := O5.cell 5
    have o_f5 := R5.frozen 5
    have o_r5 := R5.cell 5
    simp at o_0 o_1 o_2 o_3 o_4 o_5 o_r0 o_r1 o_r2 o_r3 o_r4 o_r5
    clear O5 R5 zo zr lxc
    go_wp2_with (refine upon_store e.out ?_)
    refine bodyPost_ret (v := .tuple #[.agg #[.int .i64 W, .int .i64 H, .slice (some ⟨xc, 0, none⟩) nc jc, .slice (some ⟨xd, 0, none⟩) nd jd, .slice (some ⟨xi, 0, none⟩) ni ji, .slice (some ⟨xt, 0, none⟩) nt jt], .int .i64 0]) (by simp [results, Try.results22, go_sem, *]) rfl ⟨⟨⟨some ⟨xc, 0, none⟩, some ⟨xd, 0, none⟩, some ⟨xi, 0, none⟩, some ⟨xt, 0, none⟩, jc, jd, ji, jt⟩, FD.col ⟨W, H, nc, nd, ni, nt, C, D, I, T⟩ k (ovc c (C k)), 0, rfl, FOwn.base (FOwn.far (g := w.heap.size + 1 + 1) (j := 5) (FOwn.far (g := w.heap.size + 1 + 1) (j := 4) (FOwn.far (g := w.heap.size + 1 + 1) (j := 3) (FOwn.far (g := w.heap.size + 1 + 1) (j := 2) (FOwn.far (g := w.heap.size + 1 + 1) (j := 1) (FOwn.far (g := w.heap.size + 1 + 1) (j := 0) HP.out ltR0 _) ltR0 _) ltR0 _) ltR0 _) ltR0 _) ltR0 _) SB1h9, .inr (.inr ⟨Hm.out.1, Hm.out.2, Hs.out, rfl, k, Hk.out.1, ⟨qk1, qk2, qk3, qk4⟩, by unfold FD.lay; rw [if_pos Ho.out]⟩)⟩, ?_⟩
    exact (Below.setCell (p := ⟨w.heap.size + 1 + 1, 5, none⟩) (Below.setCell (p := ⟨w.heap.size + 1 + 1, 4, none⟩) (Below.setCell (p := ⟨w.heap.size + 1 + 1, 3, none⟩) (Below.setCell (p := ⟨w.heap.size + 1 + 1, 2, none⟩) (Below.setCell (p := ⟨w.heap.size + 1 + 1, 1, none⟩) (Below.setCell (p := ⟨w.heap.size + 1 + 1, 0, none⟩) HB5.out (by show w.heap.size ≤ w.heap.size + 1 + 1; omega) _) (by show w.heap.size ≤ w.heap.size + 1 + 1; omega) _) (by show w.heap.size ≤ w.heap.size + 1 + 1; omega) _) (by show w.heap.size ≤ w.heap.size + 1 + 1; omega) _) (by show w.heap.size ≤ w.heap.size + 1 + 1; omega) _) (by show w.heap.size ≤ w.heap.size + 1 + 1; omega) _)
  have gD : decide (D k < d) = false := decide_eq_false hD
  have Ho := Lib.hid (show ¬ (I k < 0 ∨ D k < d) from fun z => by rcases z with z | z; exact hI z; exact hD z)
  rw [decide_eq_false hI] at hnb
  refine (hnb).mono ?_
  rintro e w3 ⟨rfl, bel3⟩
  clear hnb
  have HOa := HO.out.below bel3
  clear HO
  have HO := Lib.hid HOa
  clear HOa
  have t_P := P.out.below bel3
  clear P
  have P := Lib.hid t_P
  clear t_P
  have t_K := K.out.below bel3
  clear K
  have K := Lib.hid t_K
  clear t_K
  have t_R := R.out.below bel3
  clear R
  have R := Lib.hid t_R
  clear t_R
  have t_O := O.out.below bel3
  clear O
  have O := Lib.hid t_O
  clear t_O
  have SB4 : Below w.heap.size w w3 := SB3h.out.trans (bel3.mono SB3h.out.size)
  clear SB3h
  have SB4h := Lib.hid SB4
  clear SB4 bel3
  have lt_P := P.out.lt
  have P_0 := P.out.cell 0
  have P_1 := P.out.cell 1
  have P_2 := P.out.cell 2
  have P_3 := P.out.cell 3
  have P_4 := P.out.cell 4
  have P_5 := P.out.cell 5
  have P_f0 := P.out.frozen 0
  have P_f1 := P.out.frozen 1
  have P_f2 := P.out.frozen 2
  have P_f3 := P.out.frozen 3
  have P_f4 := P.out.frozen 4
  have P_f5 := P.out.frozen 5
  simp at P_0 P_1 P_2 P_3 P_4 P_5
  have lt_K := K.out.lt
  have K_0 := K.out.cell 0
  have K_1 := K.out.cell 1
  have K_2 := K.out.cell 2
  have K_3 := K.out.cell 3
  simp at K_0 K_1 K_2 K_3
  have lt_R := R.out.lt
  have R_0 := R.out.cell 0
  have R_1 := R.out.cell 1
  have R_2 := R.out.cell 2
  have R_3 := R.out.cell 3
  have R_4 := R.out.cell 4
  have R_5 := R.out.cell 5
  have R_f0 := R.out.frozen 0
  have R_f1 := R.out.frozen 1
  have R_f2 := R.out.frozen 2
  have R_f3 := R.out.frozen 3
  have R_f4 := R.out.frozen 4
  have R_f5 := R.out.frozen 5
  simp at R_0 R_1 R_2 R_3 R_4 R_5
  have lt_O := O.out.lt
  have O_0 := O.out.cell 0
  have O_1 := O.out.cell 1
  have O_2 := O.out.cell 2
  have O_3 := O.out.cell 3
  have O_4 := O.out.cell 4
  have O_5 := O.out.cell 5
  simp at O_0 O_1 O_2 O_3 O_4 O_5
  have szB_w3 := SB4h.out.size
  obtain ⟨gd, od, eD, ld, rD⟩ := HO.out.ok.2.1 (by show 0 < nd; omega)
  dsimp only at eD rD
  cases eD
  have xd_ := rD k (by omega)
  simp only [Nat.zero_add] at xd_
  clear rD
  clear hD hI
  go_wp2
  refine bodyPost_ret (v := .tuple #[.agg #[.int .i64 W, .int .i64 H, .slice (some ⟨xc, 0, none⟩) nc jc, .slice (some ⟨xd, 0, none⟩) nd jd, .slice (some ⟨xi, 0, none⟩) ni ji, .slice (some ⟨xt, 0, none⟩) nt jt], .int .i64 0]) (by simp [results, Try.results22, go_sem, *]) rfl ⟨⟨⟨some ⟨xc, 0, none⟩, some ⟨xd, 0, none⟩, some ⟨xi, 0, none⟩, some ⟨xt, 0, none⟩, jc, jd, ji, jt⟩, ⟨W, H, nc, nd, ni, nt, C, D, I, T⟩, 0, rfl, FOwn.base (FOwn.far (g := w.heap.size + 1 + 1) (j := 5) (FOwn.far (g := w.heap.size + 1 + 1) (j := 4) (FOwn.far (g := w.heap.size + 1 + 1) (j := 3) (FOwn.far (g := w.heap.size + 1 + 1) (j := 2) (FOwn.far (g := w.heap.size + 1 + 1) (j := 1) (FOwn.far (g := w.heap.size + 1 + 1) (j := 0) HO.out ltR0 _) ltR0 _) ltR0 _) ltR0 _) ltR0 _) ltR0 _) SB1h9, .inr (.inr ⟨Hm.out.1, Hm.out.2, Hs.out, rfl, k, Hk.out.1, ⟨qk1, qk2, qk3, qk4⟩, by unfold FD.lay; rw [if_neg Ho.out]⟩)⟩, ?_⟩
  exact (Below.setCell (p := ⟨w.heap.size + 1 + 1, 5, none⟩) (Below.setCell (p := ⟨w.heap.size + 1 + 1, 4, none⟩) (Below.setCell (p := ⟨w.heap.size + 1 + 1, 3, none⟩) (Below.setCell (p := ⟨w.heap.size + 1 + 1, 2, none⟩) (Below.setCell (p := ⟨w.heap.size + 1 + 1, 1, none⟩) (Below.setCell (p := ⟨w.heap.size + 1 + 1, 0, none⟩) SB4h.out (by show w.heap.size ≤ w.heap.size + 1 + 1; omega) _) (by show w.heap.size ≤ w.heap.size + 1 + 1; omega) _) (by show w.heap.size ≤ w.heap.size + 1 + 1; omega) _) (by show w.heap.size ≤ w.heap.size + 1 + 1; omega) _) (by show w.heap.size ≤ w.heap.size + 1 + 1; omega) _) (by show w.heap.size ≤ w.heap.size + 1 + 1; omega) _)
end Go.Proofs.Ytibeoeooajelgaa
