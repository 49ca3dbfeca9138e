/- the reference: what is wrong with a frame and a pixel; whether a fragment is nearer. -/
import Derived.Test.YtibeoeooajelgaaF2
import Derived.BigQuiet
namespace Go.Proofs.Ytibeoeooajelgaa
open Go.RowKit
set_option linter.unusedVariables false
def AskV (f : FD) (x y : Int) (z : Int) : Prop := (¬ f.May ∧ z = 8) ∨ (f.May ∧ ¬ f.In x y ∧ z = 2) ∨ (f.May ∧ f.In x y ∧ z = 0)

set_option maxRecDepth 100000 in
set_option maxHeartbeats 8000000 in
theorem asked_any (p : FP) (f : FD) (x y : Int) (w : World) (h : FOk w p f) : Calls Try.prog 57 #[.agg #[.int .i64 f.W, .int .i64 f.H, .slice p.ac f.nc p.kc, .slice p.ad f.nd p.kd, .slice p.ai f.ni p.ki, .slice p.a4 f.nt p.kt], .int .i64 x, .int .i64 y] w fun e w' => (∃ z, e = .returned (.int .i64 z) ∧ AskV f x y z) ∧ Below w.heap.size w w' := by
  have HF := Lib.hid h
  clear h
  go_enter Try.func57, Try.ntmps57
  go_wp2_with fail
  have s_P : HasBlk (w.alloc (.cells #[.int .i64 f.W, .int .i64 f.H, .slice p.ac f.nc p.kc, .slice p.ad f.nd p.kd, .slice p.ai f.ni p.ki, .slice p.a4 f.nt p.kt] 29)) (w.heap.size) 29 #[.int .i64 f.W, .int .i64 f.H, .slice p.ac f.nc p.kc, .slice p.ad f.nd p.kd, .slice p.ai f.ni p.ki, .slice p.a4 f.nt p.kt] := by simpa using hasBlk_new w 29 #[.int .i64 f.W, .int .i64 f.H, .slice p.ac f.nc p.kc, .slice p.ad f.nd p.kd, .slice p.ai f.ni p.ki, .slice p.a4 f.nt p.kt]
  have t_P : HasBlk (w.alloc (.cells #[.int .i64 f.W, .int .i64 f.H, .slice p.ac f.nc p.kc, .slice p.ad f.nd p.kd, .slice p.ai f.ni p.ki, .slice p.a4 f.nt p.kt] 29)) (w.heap.size) 29 #[.int .i64 f.W, .int .i64 f.H, .slice p.ac f.nc p.kc, .slice p.ad f.nd p.kd, .slice p.ai f.ni p.ki, .slice p.a4 f.nt p.kt] := by simpa using s_P
  clear s_P
  have SB1 : Below w.heap.size w (w.alloc (.cells #[.int .i64 f.W, .int .i64 f.H, .slice p.ac f.nc p.kc, .slice p.ad f.nd p.kd, .slice p.ai f.ni p.ki, .slice p.a4 f.nt p.kt] 29)) := by
    repeat' (first | exact Below.refl _ _ | assumption | apply Below.drew | refine Below.setCell ?_ (by first | omega | (simp; done) | (simp; omega)) _ | refine Below.alloc ?_ (by first | omega | (simp; done) | (simp; omega)) _)
  generalize gW_v0 : (w.alloc (.cells #[.int .i64 f.W, .int .i64 f.H, .slice p.ac f.nc p.kc, .slice p.ad f.nd p.kd, .slice p.ai f.ni p.ki, .slice p.a4 f.nt p.kt] 29)) = v0 at *
  clear gW_v0
  have P := Lib.hid t_P
  clear t_P
  have SB1h := Lib.hid SB1
  clear SB1
  refine (refmay_any p f _ (HF.out.below SB1h.out)).mono ?_
  rintro e w1 ⟨⟨b, rfl, hb⟩, bel1⟩
  have t_P := P.out.below bel1
  clear P
  have P := Lib.hid t_P
  clear t_P
  have SB2 : Below w.heap.size w w1 := SB1h.out.trans (bel1.mono SB1h.out.size)
  clear SB1h
  have SB2h := Lib.hid SB2
  clear SB2 bel1
  have lt_P := P.out.lt
  have P_0 := P.out.cell 0
  have P_1 := P.out.cell 1
  have P_2 := P.out.cell 2
  have P_3 := P.out.cell 3
  have P_4 := P.out.cell 4
  have P_5 := P.out.cell 5
  simp at P_0 P_1 P_2 P_3 P_4 P_5
  have szB_w1 := SB2h.out.size
  cases b
  · have Hm := Lib.hid (show ¬ f.May from fun hm => by have := hb.mpr hm; cases this)
    clear hb
    go_wp2
    go_ret
    exact ⟨⟨8, rfl, .inl ⟨Hm.out, rfl⟩⟩, SB2h.out⟩
  have Hm := Lib.hid (hb.mp rfl)
  clear hb
  by_cases h0 : x < (0 : Int)
  · have g0 : decide (x < (0 : Int)) = true := decide_eq_true h0
    have Hi := Lib.hid (show ¬ f.In x y by unfold FD.In; omega)
    clear h0
    go_wp2
    go_ret
    exact ⟨⟨2, rfl, .inr (.inl ⟨Hm.out, Hi.out, rfl⟩)⟩, SB2h.out⟩
  have g0 : decide (x < (0 : Int)) = false := decide_eq_false h0
  by_cases h1 : f.W ≤ x
  · have g1 : decide (f.W ≤ x) = true := decide_eq_true h1
    have Hi := Lib.hid (show ¬ f.In x y by unfold FD.In; omega)
    clear h1
    go_wp2
    go_ret
    exact ⟨⟨2, rfl, .inr (.inl ⟨Hm.out, Hi.out, rfl⟩)⟩, SB2h.out⟩
  have g1 : decide (f.W ≤ x) = false := decide_eq_false h1
  by_cases h2 : y < (0 : Int)
  · have g2 : decide (y < (0 : Int)) = true := decide_eq_true h2
    have Hi := Lib.hid (show ¬ f.In x y by unfold FD.In; omega)
    clear h2
    go_wp2
    go_ret
    exact ⟨⟨2, rfl, .inr (.inl ⟨Hm.out, Hi.out, rfl⟩)⟩, SB2h.out⟩
  have g2 : decide (y < (0 : Int)) = false := decide_eq_false h2
  by_cases h3 : f.H ≤ y
  · have g3 : decide (f.H ≤ y) = true := decide_eq_true h3
    have Hi := Lib.hid (show ¬ f.In x y by unfold FD.In; omega)
    clear h3
    go_wp2
    go_ret
    exact ⟨⟨2, rfl, .inr (.inl ⟨Hm.out, Hi.out, rfl⟩)⟩, SB2h.out⟩
  have g3 : decide (f.H ≤ y) = false := decide_eq_false h3
  have Hi := Lib.hid (show f.In x y by unfold FD.In; omega)
  clear h0 h1 h2 h3
  go_wp2
  go_ret
  exact ⟨⟨0, rfl, .inr (.inr ⟨Hm.out, Hi.out, rfl⟩)⟩, SB2h.out⟩

set_option maxRecDepth 100000 in
set_option maxHeartbeats 8000000 in
theorem refover25_any (p : FP) (f : FD) (k : Nat) (d i t p9 u v : Int) (w : World) (h : FOk w p f) (hk2 : k < f.nd) (hk3 : k < f.ni) (hk4 : k < f.nt) : Calls Try.prog 78 #[.agg #[.int .i64 f.W, .int .i64 f.H, .slice p.ac f.nc p.kc, .slice p.ad f.nd p.kd, .slice p.ai f.ni p.ki, .slice p.a4 f.nt p.kt], .int .i64 k, .agg #[.int .i64 d, .int .i64 i, .int .i64 t, .int .i64 p9, .int .i64 u, .int .i64 v]] w fun e w' => e = .returned (.bool (decide (f.Over k d i t))) ∧ Below w.heap.size w w' := by
  obtain ⟨W, H, nc, nd, ni, nt, C, D, I, T⟩ := f
  obtain ⟨ac, ad, ai, a4, kc, kd, ki, kt⟩ := p
  obtain ⟨_, hD, hI', hT⟩ := h
  dsimp only at hD hI' hT hk2 hk3 hk4 ⊢
  obtain ⟨gd, od, rfl, ld, rD⟩ := hD (by omega)
  obtain ⟨gi, oi, rfl, li, rI⟩ := hI' (by omega)
  obtain ⟨gt, ot, rfl, lt, rT⟩ := hT (by omega)
  replace rD := rD k hk2
  replace rI := rI k hk3
  replace rT := rT k hk4
  have i0 : (0 : Int) ≤ (k : Int) := by omega
  have i1 : (k : Int) < (nd : Int) := by omega
  have i2 : (k : Int) < (ni : Int) := by omega
  have i3 : (k : Int) < (nt : Int) := by omega
  clear hD hI' hT
  by_cases hI : I k < 0
  · rw [decide_eq_true (show FD.Over ⟨W, H, nc, nd, ni, nt, C, D, I, T⟩ k d i t by unfold FD.Over NearP; dsimp only; omega)]
    have gI : decide (I k < 0) = true := decide_eq_true hI
    clear hI
    go_enter Try.func78, Try.ntmps78
    go_wp2_with fail
    have NE_P_G := Lib.hid (show w.heap.size ≠ w.heap.size + 1 by omega)
    have s_P : HasBlk (w.alloc (.cells #[.int .i64 W, .int .i64 H, .slice ac nc kc, .slice (some ⟨gd, od, none⟩) nd kd, .slice (some ⟨gi, oi, none⟩) ni ki, .slice (some ⟨gt, ot, none⟩) nt kt] 29)) (w.heap.size) 29 #[.int .i64 W, .int .i64 H, .slice ac nc kc, .slice (some ⟨gd, od, none⟩) nd kd, .slice (some ⟨gi, oi, none⟩) ni ki, .slice (some ⟨gt, ot, none⟩) nt kt] := by simpa using hasBlk_new w 29 #[.int .i64 W, .int .i64 H, .slice ac nc kc, .slice (some ⟨gd, od, none⟩) nd kd, .slice (some ⟨gi, oi, none⟩) ni ki, .slice (some ⟨gt, ot, none⟩) nt kt]
    replace s_P := s_P.alloc (.cells #[.int .i64 d, .int .i64 i, .int .i64 t, .int .i64 p9, .int .i64 u, .int .i64 v] 25)
    have s_G : HasBlk ((w.alloc (.cells #[.int .i64 W, .int .i64 H, .slice ac nc kc, .slice (some ⟨gd, od, none⟩) nd kd, .slice (some ⟨gi, oi, none⟩) ni ki, .slice (some ⟨gt, ot, none⟩) nt kt] 29)).alloc (.cells #[.int .i64 d, .int .i64 i, .int .i64 t, .int .i64 p9, .int .i64 u, .int .i64 v] 25)) (w.heap.size + 1) 25 #[.int .i64 d, .int .i64 i, .int .i64 t, .int .i64 p9, .int .i64 u, .int .i64 v] := by simpa using hasBlk_new (w.alloc (.cells #[.int .i64 W, .int .i64 H, .slice ac nc kc, .slice (some ⟨gd, od, none⟩) nd kd, .slice (some ⟨gi, oi, none⟩) ni ki, .slice (some ⟨gt, ot, none⟩) nt kt] 29)) 25 #[.int .i64 d, .int .i64 i, .int .i64 t, .int .i64 p9, .int .i64 u, .int .i64 v]
    have t_P : HasBlk ((w.alloc (.cells #[.int .i64 W, .int .i64 H, .slice ac nc kc, .slice (some ⟨gd, od, none⟩) nd kd, .slice (some ⟨gi, oi, none⟩) ni ki, .slice (some ⟨gt, ot, none⟩) nt kt] 29)).alloc (.cells #[.int .i64 d, .int .i64 i, .int .i64 t, .int .i64 p9, .int .i64 u, .int .i64 v] 25)) (w.heap.size) 29 #[.int .i64 W, .int .i64 H, .slice ac nc kc, .slice (some ⟨gd, od, none⟩) nd kd, .slice (some ⟨gi, oi, none⟩) ni ki, .slice (some ⟨gt, ot, none⟩) nt kt] := by simpa using s_P
    clear s_P
    have t_G : HasBlk ((w.alloc (.cells #[.int .i64 W, .int .i64 H, .slice ac nc kc, .slice (some ⟨gd, od, none⟩) nd kd, .slice (some ⟨gi, oi, none⟩) ni ki, .slice (some ⟨gt, ot, none⟩) nt kt] 29)).alloc (.cells #[.int .i64 d, .int .i64 i, .int .i64 t, .int .i64 p9, .int .i64 u, .int .i64 v] 25)) (w.heap.size + 1) 25 #[.int .i64 d, .int .i64 i, .int .i64 t, .int .i64 p9, .int .i64 u, .int .i64 v] := by simpa using s_G
    clear s_G
    have SB1 : Below w.heap.size w ((w.alloc (.cells #[.int .i64 W, .int .i64 H, .slice ac nc kc, .slice (some ⟨gd, od, none⟩) nd kd, .slice (some ⟨gi, oi, none⟩) ni ki, .slice (some ⟨gt, ot, none⟩) nt kt] 29)).alloc (.cells #[.int .i64 d, .int .i64 i, .int .i64 t, .int .i64 p9, .int .i64 u, .int .i64 v] 25)) := by
      repeat' (first | exact Below.refl _ _ | assumption | apply Below.drew | refine Below.setCell ?_ (by first | omega | (simp; done) | (simp; omega)) _ | refine Below.alloc ?_ (by first | omega | (simp; done) | (simp; omega)) _)
    generalize gW_v0 : ((w.alloc (.cells #[.int .i64 W, .int .i64 H, .slice ac nc kc, .slice (some ⟨gd, od, none⟩) nd kd, .slice (some ⟨gi, oi, none⟩) ni ki, .slice (some ⟨gt, ot, none⟩) nt kt] 29)).alloc (.cells #[.int .i64 d, .int .i64 i, .int .i64 t, .int .i64 p9, .int .i64 u, .int .i64 v] 25)) = v0 at *
    clear gW_v0
    have P := Lib.hid t_P
    clear t_P
    have G := Lib.hid t_G
    clear t_G
    have SB1h := Lib.hid SB1
    clear SB1
    have lt_P := P.out.lt
    have P_0 := P.out.cell 0
    have P_1 := P.out.cell 1
    have P_2 := P.out.cell 2
    have P_3 := P.out.cell 3
    have P_4 := P.out.cell 4
    have P_5 := P.out.cell 5
    simp at P_0 P_1 P_2 P_3 P_4 P_5
    have lt_G := G.out.lt
    have G_0 := G.out.cell 0
    have G_1 := G.out.cell 1
    have G_2 := G.out.cell 2
    have G_3 := G.out.cell 3
    have G_4 := G.out.cell 4
    have G_5 := G.out.cell 5
    simp at G_0 G_1 G_2 G_3 G_4 G_5
    have szB_v0 := SB1h.out.size
    have cD := (SB1h.out.cell (p := ⟨gd, od + k, none⟩) ld).trans rD
    have cI := (SB1h.out.cell (p := ⟨gi, oi + k, none⟩) li).trans rI
    have cT := (SB1h.out.cell (p := ⟨gt, ot + k, none⟩) lt).trans rT
    clear rD rI rT
    go_wp2_with fail
    go_quiet (fail)
    go_wp2_with fail
    go_quiet (fail)
    go_wp2
    go_ret
    exact ⟨rfl, below_drewN (below_drewN SB1h.out _) _⟩
  by_cases hd : d ≠ D k
  · by_cases hg : D k < d
    · rw [decide_eq_true (show FD.Over ⟨W, H, nc, nd, ni, nt, C, D, I, T⟩ k d i t by unfold FD.Over NearP; dsimp only; omega)]
      have gI : decide (I k < 0) = false := decide_eq_false hI
      have gn : (d != D k) = true := by simp [hd]
      have gn' : decide (d = D k) = false := by simp [hd]
      have gg : decide (D k < d) = true := decide_eq_true hg
      clear hI hd hg
      go_enter Try.func78, Try.ntmps78
      go_wp2_with fail
      have NE_P_G := Lib.hid (show w.heap.size ≠ w.heap.size + 1 by omega)
      have s_P : HasBlk (w.alloc (.cells #[.int .i64 W, .int .i64 H, .slice ac nc kc, .slice (some ⟨gd, od, none⟩) nd kd, .slice (some ⟨gi, oi, none⟩) ni ki, .slice (some ⟨gt, ot, none⟩) nt kt] 29)) (w.heap.size) 29 #[.int .i64 W, .int .i64 H, .slice ac nc kc, .slice (some ⟨gd, od, none⟩) nd kd, .slice (some ⟨gi, oi, none⟩) ni ki, .slice (some ⟨gt, ot, none⟩) nt kt] := by simpa using hasBlk_new w 29 #[.int .i64 W, .int .i64 H, .slice ac nc kc, .slice (some ⟨gd, od, none⟩) nd kd, .slice (some ⟨gi, oi, none⟩) ni ki, .slice (some ⟨gt, ot, none⟩) nt kt]
      replace s_P := s_P.alloc (.cells #[.int .i64 d, .int .i64 i, .int .i64 t, .int .i64 p9, .int .i64 u, .int .i64 v] 25)
      have s_G : HasBlk ((w.alloc (.cells #[.int .i64 W, .int .i64 H, .slice ac nc kc, .slice (some ⟨gd, od, none⟩) nd kd, .slice (some ⟨gi, oi, none⟩) ni ki, .slice (some ⟨gt, ot, none⟩) nt kt] 29)).alloc (.cells #[.int .i64 d, .int .i64 i, .int .i64 t, .int .i64 p9, .int .i64 u, .int .i64 v] 25)) (w.heap.size + 1) 25 #[.int .i64 d, .int .i64 i, .int .i64 t, .int .i64 p9, .int .i64 u, .int .i64 v] := by simpa using hasBlk_new (w.alloc (.cells #[.int .i64 W, .int .i64 H, .slice ac nc kc, .slice (some ⟨gd, od, none⟩) nd kd, .slice (some ⟨gi, oi, none⟩) ni ki, .slice (some ⟨gt, ot, none⟩) nt kt] 29)) 25 #[.int .i64 d, .int .i64 i, .int .i64 t, .int .i64 p9, .int .i64 u, .int .i64 v]
      have t_P : HasBlk ((w.alloc (.cells #[.int .i64 W, .int .i64 H, .slice ac nc kc, .slice (some ⟨gd, od, none⟩) nd kd, .slice (some ⟨gi, oi, none⟩) ni ki, .slice (some ⟨gt, ot, none⟩) nt kt] 29)).alloc (.cells #[.int .i64 d, .int .i64 i, .int .i64 t, .int .i64 p9, .int .i64 u, .int .i64 v] 25)) (w.heap.size) 29 #[.int .i64 W, .int .i64 H, .slice ac nc kc, .slice (some ⟨gd, od, none⟩) nd kd, .slice (some ⟨gi, oi, none⟩) ni ki, .slice (some ⟨gt, ot, none⟩) nt kt] := by simpa using s_P
      clear s_P
      have t_G : HasBlk ((w.alloc (.cells #[.int .i64 W, .int .i64 H, .slice ac nc kc, .slice (some ⟨gd, od, none⟩) nd kd, .slice (some ⟨gi, oi, none⟩) ni ki, .slice (some ⟨gt, ot, none⟩) nt kt] 29)).alloc (.cells #[.int .i64 d, .int .i64 i, .int .i64 t, .int .i64 p9, .int .i64 u, .int .i64 v] 25)) (w.heap.size + 1) 25 #[.int .i64 d, .int .i64 i, .int .i64 t, .int .i64 p9, .int .i64 u, .int .i64 v] := by simpa using s_G
      clear s_G
      have SB1 : Below w.heap.size w ((w.alloc (.cells #[.int .i64 W, .int .i64 H, .slice ac nc kc, .slice (some ⟨gd, od, none⟩) nd kd, .slice (some ⟨gi, oi, none⟩) ni ki, .slice (some ⟨gt, ot, none⟩) nt kt] 29)).alloc (.cells #[.int .i64 d, .int .i64 i, .int .i64 t, .int .i64 p9, .int .i64 u, .int .i64 v] 25)) := by
        repeat' (first | exact Below.refl _ _ | assumption | apply Below.drew | refine Below.setCell ?_ (by first | omega | (simp; done) | (simp; omega)) _ | refine Below.alloc ?_ (by first | omega | (simp; done) | (simp; omega)) _)
      generalize gW_v0 : ((w.alloc (.cells #[.int .i64 W, .int .i64 H, .slice ac nc kc, .slice (some ⟨gd, od, none⟩) nd kd, .slice (some ⟨gi, oi, none⟩) ni ki, .slice (some ⟨gt, ot, none⟩) nt kt] 29)).alloc (.cells #[.int .i64 d, .int .i64 i, .int .i64 t, .int .i64 p9, .int .i64 u, .int .i64 v] 25)) = v0 at *
      clear gW_v0
      have P := Lib.hid t_P
      clear t_P
      have G := Lib.hid t_G
      clear t_G
      have SB1h := Lib.hid SB1
      clear SB1
      have lt_P := P.out.lt
      have P_0 := P.out.cell 0
      have P_1 := P.out.cell 1
      have P_2 := P.out.cell 2
      have P_3 := P.out.cell 3
      have P_4 := P.out.cell 4
      have P_5 := P.out.cell 5
      simp at P_0 P_1 P_2 P_3 P_4 P_5
      have lt_G := G.out.lt
      have G_0 := G.out.cell 0
      have G_1 := G.out.cell 1
      have G_2 := G.out.cell 2
      have G_3 := G.out.cell 3
      have G_4 := G.out.cell 4
      have G_5 := G.out.cell 5
      simp at G_0 G_1 G_2 G_3 G_4 G_5
      have szB_v0 := SB1h.out.size
      have cD := (SB1h.out.cell (p := ⟨gd, od + k, none⟩) ld).trans rD
      have cI := (SB1h.out.cell (p := ⟨gi, oi + k, none⟩) li).trans rI
      have cT := (SB1h.out.cell (p := ⟨gt, ot + k, none⟩) lt).trans rT
      clear rD rI rT
      go_wp2_with fail
      go_quiet (fail)
      go_wp2_with fail
      go_quiet (fail)
      go_wp2
      go_ret
      exact ⟨rfl, below_drewN (below_drewN SB1h.out _) _⟩
    · rw [decide_eq_false (show ¬ FD.Over ⟨W, H, nc, nd, ni, nt, C, D, I, T⟩ k d i t by unfold FD.Over NearP; dsimp only; omega)]
      have gI : decide (I k < 0) = false := decide_eq_false hI
      have gn : (d != D k) = true := by simp [hd]
      have gn' : decide (d = D k) = false := by simp [hd]
      have gg : decide (D k < d) = false := decide_eq_false hg
      clear hI hd hg
      go_enter Try.func78, Try.ntmps78
      go_wp2_with fail
      have NE_P_G := Lib.hid (show w.heap.size ≠ w.heap.size + 1 by omega)
      have s_P : HasBlk (w.alloc (.cells #[.int .i64 W, .int .i64 H, .slice ac nc kc, .slice (some ⟨gd, od, none⟩) nd kd, .slice (some ⟨gi, oi, none⟩) ni ki, .slice (some ⟨gt, ot, none⟩) nt kt] 29)) (w.heap.size) 29 #[.int .i64 W, .int .i64 H, .slice ac nc kc, .slice (some ⟨gd, od, none⟩) nd kd, .slice (some ⟨gi, oi, none⟩) ni ki, .slice (some ⟨gt, ot, none⟩) nt kt] := by simpa using hasBlk_new w 29 #[.int .i64 W, .int .i64 H, .slice ac nc kc, .slice (some ⟨gd, od, none⟩) nd kd, .slice (some ⟨gi, oi, none⟩) ni ki, .slice (some ⟨gt, ot, none⟩) nt kt]
      replace s_P := s_P.alloc (.cells #[.int .i64 d, .int .i64 i, .int .i64 t, .int .i64 p9, .int .i64 u, .int .i64 v] 25)
      have s_G : HasBlk ((w.alloc (.cells #[.int .i64 W, .int .i64 H, .slice ac nc kc, .slice (some ⟨gd, od, none⟩) nd kd, .slice (some ⟨gi, oi, none⟩) ni ki, .slice (some ⟨gt, ot, none⟩) nt kt] 29)).alloc (.cells #[.int .i64 d, .int .i64 i, .int .i64 t, .int .i64 p9, .int .i64 u, .int .i64 v] 25)) (w.heap.size + 1) 25 #[.int .i64 d, .int .i64 i, .int .i64 t, .int .i64 p9, .int .i64 u, .int .i64 v] := by simpa using hasBlk_new (w.alloc (.cells #[.int .i64 W, .int .i64 H, .slice ac nc kc, .slice (some ⟨gd, od, none⟩) nd kd, .slice (some ⟨gi, oi, none⟩) ni ki, .slice (some ⟨gt, ot, none⟩) nt kt] 29)) 25 #[.int .i64 d, .int .i64 i, .int .i64 t, .int .i64 p9, .int .i64 u, .int .i64 v]
      have t_P : HasBlk ((w.alloc (.cells #[.int .i64 W, .int .i64 H, .slice ac nc kc, .slice (some ⟨gd, od, none⟩) nd kd, .slice (some ⟨gi, oi, none⟩) ni ki, .slice (some ⟨gt, ot, none⟩) nt kt] 29)).alloc (.cells #[.int .i64 d, .int .i64 i, .int .i64 t, .int .i64 p9, .int .i64 u, .int .i64 v] 25)) (w.heap.size) 29 #[.int .i64 W, .int .i64 H, .slice ac nc kc, .slice (some ⟨gd, od, none⟩) nd kd, .slice (some ⟨gi, oi, none⟩) ni ki, .slice (some ⟨gt, ot, none⟩) nt kt] := by simpa using s_P
      clear s_P
      have t_G : HasBlk ((w.alloc (.cells #[.int .i64 W, .int .i64 H, .slice ac nc kc, .slice (some ⟨gd, od, none⟩) nd kd, .slice (some ⟨gi, oi, none⟩) ni ki, .slice (some ⟨gt, ot, none⟩) nt kt] 29)).alloc (.cells #[.int .i64 d, .int .i64 i, .int .i64 t, .int .i64 p9, .int .i64 u, .int .i64 v] 25)) (w.heap.size + 1) 25 #[.int .i64 d, .int .i64 i, .int .i64 t, .int .i64 p9, .int .i64 u, .int .i64 v] := by simpa using s_G
      clear s_G
      have SB1 : Below w.heap.size w ((w.alloc (.cells #[.int .i64 W, .int .i64 H, .slice ac nc kc, .slice (some ⟨gd, od, none⟩) nd kd, .slice (some ⟨gi, oi, none⟩) ni ki, .slice (some ⟨gt, ot, none⟩) nt kt] 29)).alloc (.cells #[.int .i64 d, .int .i64 i, .int .i64 t, .int .i64 p9, .int .i64 u, .int .i64 v] 25)) := by
        repeat' (first | exact Below.refl _ _ | assumption | apply Below.drew | refine Below.setCell ?_ (by first | omega | (simp; done) | (simp; omega)) _ | refine Below.alloc ?_ (by first | omega | (simp; done) | (simp; omega)) _)
      generalize gW_v0 : ((w.alloc (.cells #[.int .i64 W, .int .i64 H, .slice ac nc kc, .slice (some ⟨gd, od, none⟩) nd kd, .slice (some ⟨gi, oi, none⟩) ni ki, .slice (some ⟨gt, ot, none⟩) nt kt] 29)).alloc (.cells #[.int .i64 d, .int .i64 i, .int .i64 t, .int .i64 p9, .int .i64 u, .int .i64 v] 25)) = v0 at *
      clear gW_v0
      have P := Lib.hid t_P
      clear t_P
      have G := Lib.hid t_G
      clear t_G
      have SB1h := Lib.hid SB1
      clear SB1
      have lt_P := P.out.lt
      have P_0 := P.out.cell 0
      have P_1 := P.out.cell 1
      have P_2 := P.out.cell 2
      have P_3 := P.out.cell 3
      have P_4 := P.out.cell 4
      have P_5 := P.out.cell 5
      simp at P_0 P_1 P_2 P_3 P_4 P_5
      have lt_G := G.out.lt
      have G_0 := G.out.cell 0
      have G_1 := G.out.cell 1
      have G_2 := G.out.cell 2
      have G_3 := G.out.cell 3
      have G_4 := G.out.cell 4
      have G_5 := G.out.cell 5
      simp at G_0 G_1 G_2 G_3 G_4 G_5
      have szB_v0 := SB1h.out.size
      have cD := (SB1h.out.cell (p := ⟨gd, od + k, none⟩) ld).trans rD
      have cI := (SB1h.out.cell (p := ⟨gi, oi + k, none⟩) li).trans rI
      have cT := (SB1h.out.cell (p := ⟨gt, ot + k, none⟩) lt).trans rT
      clear rD rI rT
      go_wp2_with fail
      go_quiet (fail)
      go_wp2_with fail
      go_quiet (fail)
      go_wp2
      go_ret
      exact ⟨rfl, below_drewN (below_drewN SB1h.out _) _⟩
  rw [Decidable.not_not] at hd
  by_cases hi : i < I k
  · rw [decide_eq_true (show FD.Over ⟨W, H, nc, nd, ni, nt, C, D, I, T⟩ k d i t by unfold FD.Over NearP; dsimp only; omega)]
    have gI : decide (I k < 0) = false := decide_eq_false hI
    have gn : (d != D k) = false := by simp [hd]
    have gn' : decide (d = D k) = true := by simp [hd]
    have gi9 : decide (i < I k) = true := decide_eq_true hi
    clear hI hd hi
    go_enter Try.func78, Try.ntmps78
    go_wp2_with fail
    have NE_P_G := Lib.hid (show w.heap.size ≠ w.heap.size + 1 by omega)
    have s_P : HasBlk (w.alloc (.cells #[.int .i64 W, .int .i64 H, .slice ac nc kc, .slice (some ⟨gd, od, none⟩) nd kd, .slice (some ⟨gi, oi, none⟩) ni ki, .slice (some ⟨gt, ot, none⟩) nt kt] 29)) (w.heap.size) 29 #[.int .i64 W, .int .i64 H, .slice ac nc kc, .slice (some ⟨gd, od, none⟩) nd kd, .slice (some ⟨gi, oi, none⟩) ni ki, .slice (some ⟨gt, ot, none⟩) nt kt] := by simpa using hasBlk_new w 29 #[.int .i64 W, .int .i64 H, .slice ac nc kc, .slice (some ⟨gd, od, none⟩) nd kd, .slice (some ⟨gi, oi, none⟩) ni ki, .slice (some ⟨gt, ot, none⟩) nt kt]
    replace s_P := s_P.alloc (.cells #[.int .i64 d, .int .i64 i, .int .i64 t, .int .i64 p9, .int .i64 u, .int .i64 v] 25)
    have s_G : HasBlk ((w.alloc (.cells #[.int .i64 W, .int .i64 H, .slice ac nc kc, .slice (some ⟨gd, od, none⟩) nd kd, .slice (some ⟨gi, oi, none⟩) ni ki, .slice (some ⟨gt, ot, none⟩) nt kt] 29)).alloc (.cells #[.int .i64 d, .int .i64 i, .int .i64 t, .int .i64 p9, .int .i64 u, .int .i64 v] 25)) (w.heap.size + 1) 25 #[.int .i64 d, .int .i64 i, .int .i64 t, .int .i64 p9, .int .i64 u, .int .i64 v] := by simpa using hasBlk_new (w.alloc (.cells #[.int .i64 W, .int .i64 H, .slice ac nc kc, .slice (some ⟨gd, od, none⟩) nd kd, .slice (some ⟨gi, oi, none⟩) ni ki, .slice (some ⟨gt, ot, none⟩) nt kt] 29)) 25 #[.int .i64 d, .int .i64 i, .int .i64 t, .int .i64 p9, .int .i64 u, .int .i64 v]
    have t_P : HasBlk ((w.alloc (.cells #[.int .i64 W, .int .i64 H, .slice ac nc kc, .slice (some ⟨gd, od, none⟩) nd kd, .slice (some ⟨gi, oi, none⟩) ni ki, .slice (some ⟨gt, ot, none⟩) nt kt] 29)).alloc (.cells #[.int .i64 d, .int .i64 i, .int .i64 t, .int .i64 p9, .int .i64 u, .int .i64 v] 25)) (w.heap.size) 29 #[.int .i64 W, .int .i64 H, .slice ac nc kc, .slice (some ⟨gd, od, none⟩) nd kd, .slice (some ⟨gi, oi, none⟩) ni ki, .slice (some ⟨gt, ot, none⟩) nt kt] := by simpa using s_P
    clear s_P
    have t_G : HasBlk ((w.alloc (.cells #[.int .i64 W, .int .i64 H, .slice ac nc kc, .slice (some ⟨gd, od, none⟩) nd kd, .slice (some ⟨gi, oi, none⟩) ni ki, .slice (some ⟨gt, ot, none⟩) nt kt] 29)).alloc (.cells #[.int .i64 d, .int .i64 i, .int .i64 t, .int .i64 p9, .int .i64 u, .int .i64 v] 25)) (w.heap.size + 1) 25 #[.int .i64 d, .int .i64 i, .int .i64 t, .int .i64 p9, .int .i64 u, .int .i64 v] := by simpa using s_G
    clear s_G
    have SB1 : Below w.heap.size w ((w.alloc (.cells #[.int .i64 W, .int .i64 H, .slice ac nc kc, .slice (some ⟨gd, od, none⟩) nd kd, .slice (some ⟨gi, oi, none⟩) ni ki, .slice (some ⟨gt, ot, none⟩) nt kt] 29)).alloc (.cells #[.int .i64 d, .int .i64 i, .int .i64 t, .int .i64 p9, .int .i64 u, .int .i64 v] 25)) := by
      repeat' (first | exact Below.refl _ _ | assumption | apply Below.drew | refine Below.setCell ?_ (by first | omega | (simp; done) | (simp; omega)) _ | refine Below.alloc ?_ (by first | omega | (simp; done) | (simp; omega)) _)
    generalize gW_v0 : ((w.alloc (.cells #[.int .i64 W, .int .i64 H, .slice ac nc kc, .slice (some ⟨gd, od, none⟩) nd kd, .slice (some ⟨gi, oi, none⟩) ni ki, .slice (some ⟨gt, ot, none⟩) nt kt] 29)).alloc (.cells #[.int .i64 d, .int .i64 i, .int .i64 t, .int .i64 p9, .int .i64 u, .int .i64 v] 25)) = v0 at *
    clear gW_v0
    have P := Lib.hid t_P
    clear t_P
    have G := Lib.hid t_G
    clear t_G
    have SB1h := Lib.hid SB1
    clear SB1
    have lt_P := P.out.lt
    have P_0 := P.out.cell 0
    have P_1 := P.out.cell 1
    have P_2 := P.out.cell 2
    have P_3 := P.out.cell 3
    have P_4 := P.out.cell 4
    have P_5 := P.out.cell 5
    simp at P_0 P_1 P_2 P_3 P_4 P_5
    have lt_G := G.out.lt
    have G_0 := G.out.cell 0
    have G_1 := G.out.cell 1
    have G_2 := G.out.cell 2
    have G_3 := G.out.cell 3
    have G_4 := G.out.cell 4
    have G_5 := G.out.cell 5
    simp at G_0 G_1 G_2 G_3 G_4 G_5
    have szB_v0 := SB1h.out.size
    have cD := (SB1h.out.cell (p := ⟨gd, od + k, none⟩) ld).trans rD
    have cI := (SB1h.out.cell (p := ⟨gi, oi + k, none⟩) li).trans rI
    have cT := (SB1h.out.cell (p := ⟨gt, ot + k, none⟩) lt).trans rT
    clear rD rI rT
    go_wp2_with fail
    go_quiet (fail)
    go_wp2_with fail
    go_quiet (fail)
    go_wp2
    go_ret
    exact ⟨rfl, below_drewN (below_drewN SB1h.out _) _⟩
  have gi9 : decide (i < I k) = false := decide_eq_false hi
  by_cases he : i = I k
  rotate_left
  · rw [decide_eq_false (show ¬ FD.Over ⟨W, H, nc, nd, ni, nt, C, D, I, T⟩ k d i t by unfold FD.Over NearP; dsimp only; omega)]
    have gI : decide (I k < 0) = false := decide_eq_false hI
    have gn : (d != D k) = false := by simp [hd]
    have gn' : decide (d = D k) = true := by simp [hd]
    have ge : (i == I k) = false := by simp [he]
    have ge' : decide (i = I k) = false := by simp [he]
    clear hI hd hi he
    go_enter Try.func78, Try.ntmps78
    go_wp2_with fail
    have NE_P_G := Lib.hid (show w.heap.size ≠ w.heap.size + 1 by omega)
    have s_P : HasBlk (w.alloc (.cells #[.int .i64 W, .int .i64 H, .slice ac nc kc, .slice (some ⟨gd, od, none⟩) nd kd, .slice (some ⟨gi, oi, none⟩) ni ki, .slice (some ⟨gt, ot, none⟩) nt kt] 29)) (w.heap.size) 29 #[.int .i64 W, .int .i64 H, .slice ac nc kc, .slice (some ⟨gd, od, none⟩) nd kd, .slice (some ⟨gi, oi, none⟩) ni ki, .slice (some ⟨gt, ot, none⟩) nt kt] := by simpa using hasBlk_new w 29 #[.int .i64 W, .int .i64 H, .slice ac nc kc, .slice (some ⟨gd, od, none⟩) nd kd, .slice (some ⟨gi, oi, none⟩) ni ki, .slice (some ⟨gt, ot, none⟩) nt kt]
    replace s_P := s_P.alloc (.cells #[.int .i64 d, .int .i64 i, .int .i64 t, .int .i64 p9, .int .i64 u, .int .i64 v] 25)
    have s_G : HasBlk ((w.alloc (.cells #[.int .i64 W, .int .i64 H, .slice ac nc kc, .slice (some ⟨gd, od, none⟩) nd kd, .slice (some ⟨gi, oi, none⟩) ni ki, .slice (some ⟨gt, ot, none⟩) nt kt] 29)).alloc (.cells #[.int .i64 d, .int .i64 i, .int .i64 t, .int .i64 p9, .int .i64 u, .int .i64 v] 25)) (w.heap.size + 1) 25 #[.int .i64 d, .int .i64 i, .int .i64 t, .int .i64 p9, .int .i64 u, .int .i64 v] := by simpa using hasBlk_new (w.alloc (.cells #[.int .i64 W, .int .i64 H, .slice ac nc kc, .slice (some ⟨gd, od, none⟩) nd kd, .slice (some ⟨gi, oi, none⟩) ni ki, .slice (some ⟨gt, ot, none⟩) nt kt] 29)) 25 #[.int .i64 d, .int .i64 i, .int .i64 t, .int .i64 p9, .int .i64 u, .int .i64 v]
    have t_P : HasBlk ((w.alloc (.cells #[.int .i64 W, .int .i64 H, .slice ac nc kc, .slice (some ⟨gd, od, none⟩) nd kd, .slice (some ⟨gi, oi, none⟩) ni ki, .slice (some ⟨gt, ot, none⟩) nt kt] 29)).alloc (.cells #[.int .i64 d, .int .i64 i, .int .i64 t, .int .i64 p9, .int .i64 u, .int .i64 v] 25)) (w.heap.size) 29 #[.int .i64 W, .int .i64 H, .slice ac nc kc, .slice (some ⟨gd, od, none⟩) nd kd, .slice (some ⟨gi, oi, none⟩) ni ki, .slice (some ⟨gt, ot, none⟩) nt kt] := by simpa using s_P
    clear s_P
    have t_G : HasBlk ((w.alloc (.cells #[.int .i64 W, .int .i64 H, .slice ac nc kc, .slice (some ⟨gd, od, none⟩) nd kd, .slice (some ⟨gi, oi, none⟩) ni ki, .slice (some ⟨gt, ot, none⟩) nt kt] 29)).alloc (.cells #[.int .i64 d, .int .i64 i, .int .i64 t, .int .i64 p9, .int .i64 u, .int .i64 v] 25)) (w.heap.size + 1) 25 #[.int .i64 d, .int .i64 i, .int .i64 t, .int .i64 p9, .int .i64 u, .int .i64 v] := by simpa using s_G
    clear s_G
    have SB1 : Below w.heap.size w ((w.alloc (.cells #[.int .i64 W, .int .i64 H, .slice ac nc kc, .slice (some ⟨gd, od, none⟩) nd kd, .slice (some ⟨gi, oi, none⟩) ni ki, .slice (some ⟨gt, ot, none⟩) nt kt] 29)).alloc (.cells #[.int .i64 d, .int .i64 i, .int .i64 t, .int .i64 p9, .int .i64 u, .int .i64 v] 25)) := by
      repeat' (first | exact Below.refl _ _ | assumption | apply Below.drew | refine Below.setCell ?_ (by first | omega | (simp; done) | (simp; omega)) _ | refine Below.alloc ?_ (by first | omega | (simp; done) | (simp; omega)) _)
    generalize gW_v0 : ((w.alloc (.cells #[.int .i64 W, .int .i64 H, .slice ac nc kc, .slice (some ⟨gd, od, none⟩) nd kd, .slice (some ⟨gi, oi, none⟩) ni ki, .slice (some ⟨gt, ot, none⟩) nt kt] 29)).alloc (.cells #[.int .i64 d, .int .i64 i, .int .i64 t, .int .i64 p9, .int .i64 u, .int .i64 v] 25)) = v0 at *
    clear gW_v0
    have P := Lib.hid t_P
    clear t_P
    have G := Lib.hid t_G
    clear t_G
    have SB1h := Lib.hid SB1
    clear SB1
    have lt_P := P.out.lt
    have P_0 := P.out.cell 0
    have P_1 := P.out.cell 1
    have P_2 := P.out.cell 2
    have P_3 := P.out.cell 3
    have P_4 := P.out.cell 4
    have P_5 := P.out.cell 5
    simp at P_0 P_1 P_2 P_3 P_4 P_5
    have lt_G := G.out.lt
    have G_0 := G.out.cell 0
    have G_1 := G.out.cell 1
    have G_2 := G.out.cell 2
    have G_3 := G.out.cell 3
    have G_4 := G.out.cell 4
    have G_5 := G.out.cell 5
    simp at G_0 G_1 G_2 G_3 G_4 G_5
    have szB_v0 := SB1h.out.size
    have cD := (SB1h.out.cell (p := ⟨gd, od + k, none⟩) ld).trans rD
    have cI := (SB1h.out.cell (p := ⟨gi, oi + k, none⟩) li).trans rI
    have cT := (SB1h.out.cell (p := ⟨gt, ot + k, none⟩) lt).trans rT
    clear rD rI rT
    go_wp2_with fail
    go_quiet (fail)
    go_wp2_with fail
    go_quiet (fail)
    go_wp2
    go_ret
    exact ⟨rfl, below_drewN (below_drewN SB1h.out _) _⟩
  have ge : (i == I k) = true := by simp [he]
  have ge' : decide (i = I k) = true := by simp [he]
  by_cases ht : t < T k
  · rw [decide_eq_true (show FD.Over ⟨W, H, nc, nd, ni, nt, C, D, I, T⟩ k d i t by unfold FD.Over NearP; dsimp only; omega)]
    have gI : decide (I k < 0) = false := decide_eq_false hI
    have gn : (d != D k) = false := by simp [hd]
    have gn' : decide (d = D k) = true := by simp [hd]
    have gt9 : decide (t < T k) = true := decide_eq_true ht
    clear hI hd hi he ht
    go_enter Try.func78, Try.ntmps78
    go_wp2_with fail
    have NE_P_G := Lib.hid (show w.heap.size ≠ w.heap.size + 1 by omega)
    have s_P : HasBlk (w.alloc (.cells #[.int .i64 W, .int .i64 H, .slice ac nc kc, .slice (some ⟨gd, od, none⟩) nd kd, .slice (some ⟨gi, oi, none⟩) ni ki, .slice (some ⟨gt, ot, none⟩) nt kt] 29)) (w.heap.size) 29 #[.int .i64 W, .int .i64 H, .slice ac nc kc, .slice (some ⟨gd, od, none⟩) nd kd, .slice (some ⟨gi, oi, none⟩) ni ki, .slice (some ⟨gt, ot, none⟩) nt kt] := by simpa using hasBlk_new w 29 #[.int .i64 W, .int .i64 H, .slice ac nc kc, .slice (some ⟨gd, od, none⟩) nd kd, .slice (some ⟨gi, oi, none⟩) ni ki, .slice (some ⟨gt, ot, none⟩) nt kt]
    replace s_P := s_P.alloc (.cells #[.int .i64 d, .int .i64 i, .int .i64 t, .int .i64 p9, .int .i64 u, .int .i64 v] 25)
    have s_G : HasBlk ((w.alloc (.cells #[.int .i64 W, .int .i64 H, .slice ac nc kc, .slice (some ⟨gd, od, none⟩) nd kd, .slice (some ⟨gi, oi, none⟩) ni ki, .slice (some ⟨gt, ot, none⟩) nt kt] 29)).alloc (.cells #[.int .i64 d, .int .i64 i, .int .i64 t, .int .i64 p9, .int .i64 u, .int .i64 v] 25)) (w.heap.size + 1) 25 #[.int .i64 d, .int .i64 i, .int .i64 t, .int .i64 p9, .int .i64 u, .int .i64 v] := by simpa using hasBlk_new (w.alloc (.cells #[.int .i64 W, .int .i64 H, .slice ac nc kc, .slice (some ⟨gd, od, none⟩) nd kd, .slice (some ⟨gi, oi, none⟩) ni ki, .slice (some ⟨gt, ot, none⟩) nt kt] 29)) 25 #[.int .i64 d, .int .i64 i, .int .i64 t, .int .i64 p9, .int .i64 u, .int .i64 v]
    have t_P : HasBlk ((w.alloc (.cells #[.int .i64 W, .int .i64 H, .slice ac nc kc, .slice (some ⟨gd, od, none⟩) nd kd, .slice (some ⟨gi, oi, none⟩) ni ki, .slice (some ⟨gt, ot, none⟩) nt kt] 29)).alloc (.cells #[.int .i64 d, .int .i64 i, .int .i64 t, .int .i64 p9, .int .i64 u, .int .i64 v] 25)) (w.heap.size) 29 #[.int .i64 W, .int .i64 H, .slice ac nc kc, .slice (some ⟨gd, od, none⟩) nd kd, .slice (some ⟨gi, oi, none⟩) ni ki, .slice (some ⟨gt, ot, none⟩) nt kt] := by simpa using s_P
    clear s_P
    have t_G : HasBlk ((w.alloc (.cells #[.int .i64 W, .int .i64 H, .slice ac nc kc, .slice (some ⟨gd, od, none⟩) nd kd, .slice (some ⟨gi, oi, none⟩) ni ki, .slice (some ⟨gt, ot, none⟩) nt kt] 29)).alloc (.cells #[.int .i64 d, .int .i64 i, .int .i64 t, .int .i64 p9, .int .i64 u, .int .i64 v] 25)) (w.heap.size + 1) 25 #[.int .i64 d, .int .i64 i, .int .i64 t, .int .i64 p9, .int .i64 u, .int .i64 v] := by simpa using s_G
    clear s_G
    have SB1 : Below w.heap.size w ((w.alloc (.cells #[.int .i64 W, .int .i64 H, .slice ac nc kc, .slice (some ⟨gd, od, none⟩) nd kd, .slice (some ⟨gi, oi, none⟩) ni ki, .slice (some ⟨gt, ot, none⟩) nt kt] 29)).alloc (.cells #[.int .i64 d, .int .i64 i, .int .i64 t, .int .i64 p9, .int .i64 u, .int .i64 v] 25)) := by
      repeat' (first | exact Below.refl _ _ | assumption | apply Below.drew | refine Below.setCell ?_ (by first | omega | (simp; done) | (simp; omega)) _ | refine Below.alloc ?_ (by first | omega | (simp; done) | (simp; omega)) _)
    generalize gW_v0 : ((w.alloc (.cells #[.int .i64 W, .int .i64 H, .slice ac nc kc, .slice (some ⟨gd, od, none⟩) nd kd, .slice (some ⟨gi, oi, none⟩) ni ki, .slice (some ⟨gt, ot, none⟩) nt kt] 29)).alloc (.cells #[.int .i64 d, .int .i64 i, .int .i64 t, .int .i64 p9, .int .i64 u, .int .i64 v] 25)) = v0 at *
    clear gW_v0
    have P := Lib.hid t_P
    clear t_P
    have G := Lib.hid t_G
    clear t_G
    have SB1h := Lib.hid SB1
    clear SB1
    have lt_P := P.out.lt
    have P_0 := P.out.cell 0
    have P_1 := P.out.cell 1
    have P_2 := P.out.cell 2
    have P_3 := P.out.cell 3
    have P_4 := P.out.cell 4
    have P_5 := P.out.cell 5
    simp at P_0 P_1 P_2 P_3 P_4 P_5
    have lt_G := G.out.lt
    have G_0 := G.out.cell 0
    have G_1 := G.out.cell 1
    have G_2 := G.out.cell 2
    have G_3 := G.out.cell 3
    have G_4 := G.out.cell 4
    have G_5 := G.out.cell 5
    simp at G_0 G_1 G_2 G_3 G_4 G_5
    have szB_v0 := SB1h.out.size
    have cD := (SB1h.out.cell (p := ⟨gd, od + k, none⟩) ld).trans rD
    have cI := (SB1h.out.cell (p := ⟨gi, oi + k, none⟩) li).trans rI
    have cT := (SB1h.out.cell (p := ⟨gt, ot + k, none⟩) lt).trans rT
    clear rD rI rT
    go_wp2_with fail
    go_quiet (fail)
    go_wp2_with fail
    go_quiet (fail)
    go_wp2
    go_ret
    exact ⟨rfl, below_drewN (below_drewN SB1h.out _) _⟩
  rw [decide_eq_false (show ¬ FD.Over ⟨W, H, nc, nd, ni, nt, C, D, I, T⟩ k d i t by unfold FD.Over NearP; dsimp only; omega)]
  have gI : decide (I k < 0) = false := decide_eq_false hI
  have gn : (d != D k) = false := by simp [hd]
  have gn' : decide (d = D k) = true := by simp [hd]
  have gt9 : decide (t < T k) = false := decide_eq_false ht
  clear hI hd hi he ht
  go_enter Try.func78, Try.ntmps78
  go_wp2_with fail
  have NE_P_G := Lib.hid (show w.heap.size ≠ w.heap.size + 1 by omega)
  have s_P : HasBlk (w.alloc (.cells #[.int .i64 W, .int .i64 H, .slice ac nc kc, .slice (some ⟨gd, od, none⟩) nd kd, .slice (some ⟨gi, oi, none⟩) ni ki, .slice (some ⟨gt, ot, none⟩) nt kt] 29)) (w.heap.size) 29 #[.int .i64 W, .int .i64 H, .slice ac nc kc, .slice (some ⟨gd, od, none⟩) nd kd, .slice (some ⟨gi, oi, none⟩) ni ki, .slice (some ⟨gt, ot, none⟩) nt kt] := by simpa using hasBlk_new w 29 #[.int .i64 W, .int .i64 H, .slice ac nc kc, .slice (some ⟨gd, od, none⟩) nd kd, .slice (some ⟨gi, oi, none⟩) ni ki, .slice (some ⟨gt, ot, none⟩) nt kt]
  replace s_P := s_P.alloc (.cells #[.int .i64 d, .int .i64 i, .int .i64 t, .int .i64 p9, .int .i64 u, .int .i64 v] 25)
  have s_G : HasBlk ((w.alloc (.cells #[.int .i64 W, .int .i64 H, .slice ac nc kc, .slice (some ⟨gd, od, none⟩) nd kd, .slice (some ⟨gi, oi, none⟩) ni ki, .slice (some ⟨gt, ot, none⟩) nt kt] 29)).alloc (.cells #[.int .i64 d, .int .i64 i, .int .i64 t, .int .i64 p9, .int .i64 u, .int .i64 v] 25)) (w.heap.size + 1) 25 #[.int .i64 d, .int .i64 i, .int .i64 t, .int .i64 p9, .int .i64 u, .int .i64 v] := by simpa using hasBlk_new (w.alloc (.cells #[.int .i64 W, .int .i64 H, .slice ac nc kc, .slice (some ⟨gd, od, none⟩) nd kd, .slice (some ⟨gi, oi, none⟩) ni ki, .slice (some ⟨gt, ot, none⟩) nt kt] 29)) 25 #[.int .i64 d, .int .i64 i, .int .i64 t, .int .i64 p9, .int .i64 u, .int .i64 v]
  have t_P : HasBlk ((w.alloc (.cells #[.int .i64 W, .int .i64 H, .slice ac nc kc, .slice (some ⟨gd, od, none⟩) nd kd, .slice (some ⟨gi, oi, none⟩) ni ki, .slice (some ⟨gt, ot, none⟩) nt kt] 29)).alloc (.cells #[.int .i64 d, .int .i64 i, .int .i64 t, .int .i64 p9, .int .i64 u, .int .i64 v] 25)) (w.heap.size) 29 #[.int .i64 W, .int .i64 H, .slice ac nc kc, .slice (some ⟨gd, od, none⟩) nd kd, .slice (some ⟨gi, oi, none⟩) ni ki, .slice (some ⟨gt, ot, none⟩) nt kt] := by simpa using s_P
  clear s_P
  have t_G : HasBlk ((w.alloc (.cells #[.int .i64 W, .int .i64 H, .slice ac nc kc, .slice (some ⟨gd, od, none⟩) nd kd, .slice (some ⟨gi, oi, none⟩) ni ki, .slice (some ⟨gt, ot, none⟩) nt kt] 29)).alloc (.cells #[.int .i64 d, .int .i64 i, .int .i64 t, .int .i64 p9, .int .i64 u, .int .i64 v] 25)) (w.heap.size + 1) 25 #[.int .i64 d, .int .i64 i, .int .i64 t, .int .i64 p9, .int .i64 u, .int .i64 v] := by simpa using s_G
  clear s_G
  have SB1 : Below w.heap.size w ((w.alloc (.cells #[.int .i64 W, .int .i64 H, .slice ac nc kc, .slice (some ⟨gd, od, none⟩) nd kd, .slice (some ⟨gi, oi, none⟩) ni ki, .slice (some ⟨gt, ot, none⟩) nt kt] 29)).alloc (.cells #[.int .i64 d, .int .i64 i, .int .i64 t, .int .i64 p9, .int .i64 u, .int .i64 v] 25)) := by
    repeat' (first | exact Below.refl _ _ | assumption | apply Below.drew | refine Below.setCell ?_ (by first | omega | (simp; done) | (simp; omega)) _ | refine Below.alloc ?_ (by first | omega | (simp; done) | (simp; omega)) _)
  generalize gW_v0 : ((w.alloc (.cells #[.int .i64 W, .int .i64 H, .slice ac nc kc, .slice (some ⟨gd, od, none⟩) nd kd, .slice (some ⟨gi, oi, none⟩) ni ki, .slice (some ⟨gt, ot, none⟩) nt kt] 29)).alloc (.cells #[.int .i64 d, .int .i64 i, .int .i64 t, .int .i64 p9, .int .i64 u, .int .i64 v] 25)) = v0 at *
  clear gW_v0
  have P := Lib.hid t_P
  clear t_P
  have G := Lib.hid t_G
  clear t_G
  have SB1h := Lib.hid SB1
  clear SB1
  have lt_P := P.out.lt
  have P_0 := P.out.cell 0
  have P_1 := P.out.cell 1
  have P_2 := P.out.cell 2
  have P_3 := P.out.cell 3
  have P_4 := P.out.cell 4
  have P_5 := P.out.cell 5
  simp at P_0 P_1 P_2 P_3 P_4 P_5
  have lt_G := G.out.lt
  have G_0 := G.out.cell 0
  have G_1 := G.out.cell 1
  have G_2 := G.out.cell 2
  have G_3 := G.out.cell 3
  have G_4 := G.out.cell 4
  have G_5 := G.out.cell 5
  simp at G_0 G_1 G_2 G_3 G_4 G_5
  have szB_v0 := SB1h.out.size
  have cD := (SB1h.out.cell (p := ⟨gd, od + k, none⟩) ld).trans rD
  have cI := (SB1h.out.cell (p := ⟨gi, oi + k, none⟩) li).trans rI
  have cT := (SB1h.out.cell (p := ⟨gt, ot + k, none⟩) lt).trans rT
  clear rD rI rT
  go_wp2_with fail
  go_quiet (fail)
  go_wp2_with fail
  go_quiet (fail)
  go_wp2
  go_ret
  exact ⟨rfl, below_drewN (below_drewN SB1h.out _) _⟩
end Go.Proofs.Ytibeoeooajelgaa
