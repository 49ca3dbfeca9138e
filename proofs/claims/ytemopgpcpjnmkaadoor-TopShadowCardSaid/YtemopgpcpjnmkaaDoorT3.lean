/- top: windows; a box's spans. -/
import Derived.Test.YtemopgpcpjnmkaaDoorT2
namespace Go.Proofs.YtemopgpcpjnmkaaDoor
open Go.RowKit
set_option linter.unusedVariables false
/-- Pixels that may be looked at. -/
def WinOk (c : CD) (X0 Y0 X1 Y1 : Int) : Prop := (0 ≤ X0 ∧ X0 ≤ X1 ∧ X1 ≤ c.W - 1) ∧ (0 ≤ Y0 ∧ Y0 ≤ Y1 ∧ Y1 ≤ c.H - 1)
open Classical in
noncomputable def wcod (c : CD) (X0 Y0 X1 Y1 : Int) : Int := if c.Ok then cod (WinOk c X0 Y0 X1 Y1) 2 else 150
theorem wcod_zero {c : CD} {X0 Y0 X1 Y1 : Int} : wcod c X0 Y0 X1 Y1 = 0 ↔ c.Ok ∧ WinOk c X0 Y0 X1 Y1 := by
  unfold wcod
  by_cases h : c.Ok
  · rw [if_pos h]
    by_cases k : WinOk c X0 Y0 X1 Y1
    · rw [cod_yes k]; exact ⟨fun _ => ⟨h, k⟩, fun _ => rfl⟩
    · rw [cod_no k]; exact ⟨fun q => by omega, fun q => absurd q.2 k⟩
  · rw [if_neg h]; exact ⟨fun q => by omega, fun q => absurd q.1 h⟩

set_option maxRecDepth 100000 in
set_option maxHeartbeats 16000000 in
theorem window_any (c : CD) (X0 Y0 X1 Y1 : Int) (w : World) : Calls Tryd.prog 8 #[.agg #[.int .i64 c.p.x, .int .i64 c.p.y, .int .i64 c.p.z, .int .i64 (c.m 0), .int .i64 (c.m 1), .int .i64 (c.m 2), .int .i64 (c.m 3), .int .i64 (c.m 4), .int .i64 (c.m 5), .int .i64 (c.m 6), .int .i64 (c.m 7), .int .i64 (c.m 8), .int .i64 c.F, .int .i64 c.N, .int .i64 c.W, .int .i64 c.H], .agg #[.int .i64 X0, .int .i64 Y0, .int .i64 X1, .int .i64 Y1]] w fun e w' => e = .returned (.int .i64 (wcod c X0 Y0 X1 Y1)) ∧ Below w.heap.size w w' := by
  have HB := Lib.hid (show Below w.heap.size w ((w.alloc (.cells #[.int .i64 c.p.x, .int .i64 c.p.y, .int .i64 c.p.z, .int .i64 (c.m 0), .int .i64 (c.m 1), .int .i64 (c.m 2), .int .i64 (c.m 3), .int .i64 (c.m 4), .int .i64 (c.m 5), .int .i64 (c.m 6), .int .i64 (c.m 7), .int .i64 (c.m 8), .int .i64 c.F, .int .i64 c.N, .int .i64 c.W, .int .i64 c.H] 31)).alloc (.cells #[.int .i64 X0, .int .i64 Y0, .int .i64 X1, .int .i64 Y1] 33)) by
    repeat' (first | exact Below.refl _ _ | refine Below.alloc ?_ (by first | omega | (simp; done) | (simp; omega)) _))
  have P1 := Lib.hid ((hasBlk_new w 31 #[.int .i64 c.p.x, .int .i64 c.p.y, .int .i64 c.p.z, .int .i64 (c.m 0), .int .i64 (c.m 1), .int .i64 (c.m 2), .int .i64 (c.m 3), .int .i64 (c.m 4), .int .i64 (c.m 5), .int .i64 (c.m 6), .int .i64 (c.m 7), .int .i64 (c.m 8), .int .i64 c.F, .int .i64 c.N, .int .i64 c.W, .int .i64 c.H]).alloc (.cells #[.int .i64 X0, .int .i64 Y0, .int .i64 X1, .int .i64 Y1] 33))
  have P2 := Lib.hid (show HasBlk ((w.alloc (.cells #[.int .i64 c.p.x, .int .i64 c.p.y, .int .i64 c.p.z, .int .i64 (c.m 0), .int .i64 (c.m 1), .int .i64 (c.m 2), .int .i64 (c.m 3), .int .i64 (c.m 4), .int .i64 (c.m 5), .int .i64 (c.m 6), .int .i64 (c.m 7), .int .i64 (c.m 8), .int .i64 c.F, .int .i64 c.N, .int .i64 c.W, .int .i64 c.H] 31)).alloc (.cells #[.int .i64 X0, .int .i64 Y0, .int .i64 X1, .int .i64 Y1] 33)) (w.heap.size + 1) 33 #[.int .i64 X0, .int .i64 Y0, .int .i64 X1, .int .i64 Y1] by simpa using hasBlk_new (w.alloc (.cells #[.int .i64 c.p.x, .int .i64 c.p.y, .int .i64 c.p.z, .int .i64 (c.m 0), .int .i64 (c.m 1), .int .i64 (c.m 2), .int .i64 (c.m 3), .int .i64 (c.m 4), .int .i64 (c.m 5), .int .i64 (c.m 6), .int .i64 (c.m 7), .int .i64 (c.m 8), .int .i64 c.F, .int .i64 c.N, .int .i64 c.W, .int .i64 c.H] 31)) 33 #[.int .i64 X0, .int .i64 Y0, .int .i64 X1, .int .i64 Y1])
  go_enter Tryd.func8, Tryd.ntmps8
  go_upto_region 1 with fail
  generalize ((w.alloc (.cells #[.int .i64 c.p.x, .int .i64 c.p.y, .int .i64 c.p.z, .int .i64 (c.m 0), .int .i64 (c.m 1), .int .i64 (c.m 2), .int .i64 (c.m 3), .int .i64 (c.m 4), .int .i64 (c.m 5), .int .i64 (c.m 6), .int .i64 (c.m 7), .int .i64 (c.m 8), .int .i64 c.F, .int .i64 c.N, .int .i64 c.W, .int .i64 c.H] 31)).alloc (.cells #[.int .i64 X0, .int .i64 Y0, .int .i64 X1, .int .i64 Y1] 33)) = v0 at *
  have p1_ := P1.out.c16
  have KX := Lib.hid (ccheck_any c v0)
  go_wp2_with fail
  refine KX.out.mono ?_
  rintro e v1 ⟨rfl, bel⟩
  clear p1_
  have HB' := Lib.hid (HB.out.trans (bel.mono HB.out.size))
  have P1' := Lib.hid (P1.out.below bel)
  have P2' := Lib.hid (P2.out.below bel)
  clear HB P1 P2
  have HB := Lib.hid HB'.out
  have P1 := Lib.hid P1'.out
  have P2 := Lib.hid P2'.out
  clear HB' P1' P2'
  clear bel KX
  by_cases hc : c.Ok
  rotate_left
  · have HE := Lib.hid (show wcod c X0 Y0 X1 Y1 = 150 from if_neg hc)
    rw [cod_no hc]
    clear hc
    go_wp2
    go_ret
    exact ⟨by rw [HE.out]; rfl, HB.out⟩
  rw [cod_yes hc]
  have WC := Lib.hid (show wcod c X0 Y0 X1 Y1 = cod (WinOk c X0 Y0 X1 Y1) 2 from if_pos hc)
  have hW := hc.1.2.2.2.1
  have hH := hc.1.2.2.2.2
  unfold Wi at hW hH
  have w1 : IntKind.i64.wrap (c.W - 1) = c.W - 1 := IntWalk.i64_in _ (by omega)
  have w2 : IntKind.i64.wrap (c.H - 1) = c.H - 1 := IntWalk.i64_in _ (by omega)
  clear hc
  clear hW hH
  by_cases hX0 : X0 ≤ 0
  · have kX01 : X0 ≤ 0 := hX0
    have kX02 : ¬ 0 < X0 := by omega
    have KX0 := Lib.hid hX0
    clear hX0
    by_cases hY0 : Y0 ≤ 0
    · have kY01 : Y0 ≤ 0 := hY0
      have kY02 : ¬ 0 < Y0 := by omega
      have KY0 := Lib.hid hY0
      clear hY0
      obtain ⟨b1, hb1⟩ := ex_bool (Wi X1 0 (c.W - 1))
      obtain ⟨b2, hb2⟩ := ex_bool (Wi Y1 0 (c.H - 1))
      have B1 := Lib.hid hb1
      have B2 := Lib.hid hb2
      clear hb1 hb2
      have p1_ := P1.out.c16
      have p2_ := P2.out.c4
      go_wp2_with fail
      refine (within_b B1.out _).mono ?_
      rintro e v2 ⟨rfl, bel⟩
      clear p1_
      clear p2_
      have HB' := Lib.hid (HB.out.trans (bel.mono HB.out.size))
      have P1' := Lib.hid (P1.out.below bel)
      have P2' := Lib.hid (P2.out.below bel)
      clear HB P1 P2
      have HB := Lib.hid HB'.out
      have P1 := Lib.hid P1'.out
      have P2 := Lib.hid P2'.out
      clear HB' P1' P2'
      clear bel
      cases b1
      · have HX := Lib.hid (show ¬ (0 ≤ X1 ∧ X1 ≤ c.W - 1) from fun h => by have := B1.out.2 h; cases this)
        have HE := Lib.hid (show wcod c X0 Y0 X1 Y1 = 2 by rw [WC.out]; exact cod_no (fun h => by unfold WinOk at h; have := HX.out; have := KX0.out; have := KY0.out; omega))
        go_wp2
        go_ret
        exact ⟨by rw [HE.out]; rfl, HB.out⟩
      have p1_ := P1.out.c16
      have p2_ := P2.out.c4
      go_wp2_with fail
      refine (within_b B2.out _).mono ?_
      rintro e v3 ⟨rfl, bel⟩
      clear p1_
      clear p2_
      have HB' := Lib.hid (HB.out.trans (bel.mono HB.out.size))
      have P1' := Lib.hid (P1.out.below bel)
      have P2' := Lib.hid (P2.out.below bel)
      clear HB P1 P2
      have HB := Lib.hid HB'.out
      have P1 := Lib.hid P1'.out
      have P2 := Lib.hid P2'.out
      clear HB' P1' P2'
      clear bel
      have G1 := Lib.hid (B1.out.1 (by simp))
      cases b2
      · have HX := Lib.hid (show ¬ (0 ≤ Y1 ∧ Y1 ≤ c.H - 1) from fun h => by have := B2.out.2 h; cases this)
        have HE := Lib.hid (show wcod c X0 Y0 X1 Y1 = 2 by rw [WC.out]; exact cod_no (fun h => by unfold WinOk at h; have := HX.out; have := KX0.out; have := KY0.out; omega))
        go_wp2
        go_ret
        exact ⟨by rw [HE.out]; rfl, HB.out⟩
      have G2 := Lib.hid (B2.out.1 (by simp))
      have p2_ := P2.out.c4
      by_cases hx9 : X0 < 0
      · have g1 : decide (X0 < 0) = true := decide_eq_true hx9
        have HX := Lib.hid hx9
        have HE := Lib.hid (show wcod c X0 Y0 X1 Y1 = 2 by rw [WC.out]; exact cod_no (fun h => by unfold WinOk at h; have := HX.out; have := KX0.out; have := KY0.out; omega))
        go_wp2
        go_ret
        exact ⟨by rw [HE.out]; rfl, HB.out⟩
      by_cases hy9 : Y0 < 0
      · have g1 : decide (X0 < 0) = false := decide_eq_false hx9
        have g2 : decide (Y0 < 0) = true := decide_eq_true hy9
        have HX := Lib.hid hy9
        have HE := Lib.hid (show wcod c X0 Y0 X1 Y1 = 2 by rw [WC.out]; exact cod_no (fun h => by unfold WinOk at h; have := HX.out; have := KX0.out; have := KY0.out; omega))
        go_wp2
        go_ret
        exact ⟨by rw [HE.out]; rfl, HB.out⟩
      have HX9 := Lib.hid hx9
      have HY9 := Lib.hid hy9
      have g1 : decide (X0 < 0) = false := decide_eq_false HX9.out
      have g2 : decide (Y0 < 0) = false := decide_eq_false HY9.out
      have HE := Lib.hid (show wcod c X0 Y0 X1 Y1 = 0 by
        rw [WC.out]
        have k1 := G1.out
        have k2 := G2.out
        have k3 := KX0.out
        have k4 := KY0.out
        have k5 := HX9.out
        have k6 := HY9.out
        unfold Wi at k1 k2
        exact cod_yes ⟨⟨by omega, by omega, by omega⟩, by omega, by omega, by omega⟩)
      go_wp2
      go_ret
      exact ⟨by rw [HE.out]; rfl, HB.out⟩
    · have kY01 : ¬ Y0 ≤ 0 := hY0
      have kY02 : 0 < Y0 := by omega
      have KY0 := Lib.hid hY0
      clear hY0
      obtain ⟨b1, hb1⟩ := ex_bool (Wi X1 0 (c.W - 1))
      obtain ⟨b2, hb2⟩ := ex_bool (Wi Y1 Y0 (c.H - 1))
      have B1 := Lib.hid hb1
      have B2 := Lib.hid hb2
      clear hb1 hb2
      have p1_ := P1.out.c16
      have p2_ := P2.out.c4
      go_wp2_with fail
      refine (within_b B1.out _).mono ?_
      rintro e v2 ⟨rfl, bel⟩
      clear p1_
      clear p2_
      have HB' := Lib.hid (HB.out.trans (bel.mono HB.out.size))
      have P1' := Lib.hid (P1.out.below bel)
      have P2' := Lib.hid (P2.out.below bel)
      clear HB P1 P2
      have HB := Lib.hid HB'.out
      have P1 := Lib.hid P1'.out
      have P2 := Lib.hid P2'.out
      clear HB' P1' P2'
      clear bel
      cases b1
      · have HX := Lib.hid (show ¬ (0 ≤ X1 ∧ X1 ≤ c.W - 1) from fun h => by have := B1.out.2 h; cases this)
        have HE := Lib.hid (show wcod c X0 Y0 X1 Y1 = 2 by rw [WC.out]; exact cod_no (fun h => by unfold WinOk at h; have := HX.out; have := KX0.out; have := KY0.out; omega))
        go_wp2
        go_ret
        exact ⟨by rw [HE.out]; rfl, HB.out⟩
      have p1_ := P1.out.c16
      have p2_ := P2.out.c4
      go_wp2_with fail
      refine (within_b B2.out _).mono ?_
      rintro e v3 ⟨rfl, bel⟩
      clear p1_
      clear p2_
      have HB' := Lib.hid (HB.out.trans (bel.mono HB.out.size))
      have P1' := Lib.hid (P1.out.below bel)
      have P2' := Lib.hid (P2.out.below bel)
      clear HB P1 P2
      have HB := Lib.hid HB'.out
      have P1 := Lib.hid P1'.out
      have P2 := Lib.hid P2'.out
      clear HB' P1' P2'
      clear bel
      have G1 := Lib.hid (B1.out.1 (by simp))
      cases b2
      · have HX := Lib.hid (show ¬ (Y0 ≤ Y1 ∧ Y1 ≤ c.H - 1) from fun h => by have := B2.out.2 h; cases this)
        have HE := Lib.hid (show wcod c X0 Y0 X1 Y1 = 2 by rw [WC.out]; exact cod_no (fun h => by unfold WinOk at h; have := HX.out; have := KX0.out; have := KY0.out; omega))
        go_wp2
        go_ret
        exact ⟨by rw [HE.out]; rfl, HB.out⟩
      have G2 := Lib.hid (B2.out.1 (by simp))
      have p2_ := P2.out.c4
      by_cases hx9 : X0 < 0
      · have g1 : decide (X0 < 0) = true := decide_eq_true hx9
        have HX := Lib.hid hx9
        have HE := Lib.hid (show wcod c X0 Y0 X1 Y1 = 2 by rw [WC.out]; exact cod_no (fun h => by unfold WinOk at h; have := HX.out; have := KX0.out; have := KY0.out; omega))
        go_wp2
        go_ret
        exact ⟨by rw [HE.out]; rfl, HB.out⟩
      have hy9 : ¬ Y0 < 0 := by omega
      have HX9 := Lib.hid hx9
      have HY9 := Lib.hid hy9
      have g1 : decide (X0 < 0) = false := decide_eq_false HX9.out
      have g2 : decide (Y0 < 0) = false := decide_eq_false HY9.out
      have HE := Lib.hid (show wcod c X0 Y0 X1 Y1 = 0 by
        rw [WC.out]
        have k1 := G1.out
        have k2 := G2.out
        have k3 := KX0.out
        have k4 := KY0.out
        have k5 := HX9.out
        have k6 := HY9.out
        unfold Wi at k1 k2
        exact cod_yes ⟨⟨by omega, by omega, by omega⟩, by omega, by omega, by omega⟩)
      go_wp2
      go_ret
      exact ⟨by rw [HE.out]; rfl, HB.out⟩
  · have kX01 : ¬ X0 ≤ 0 := hX0
    have kX02 : 0 < X0 := by omega
    have KX0 := Lib.hid hX0
    clear hX0
    by_cases hY0 : Y0 ≤ 0
    · have kY01 : Y0 ≤ 0 := hY0
      have kY02 : ¬ 0 < Y0 := by omega
      have KY0 := Lib.hid hY0
      clear hY0
      obtain ⟨b1, hb1⟩ := ex_bool (Wi X1 X0 (c.W - 1))
      obtain ⟨b2, hb2⟩ := ex_bool (Wi Y1 0 (c.H - 1))
      have B1 := Lib.hid hb1
      have B2 := Lib.hid hb2
      clear hb1 hb2
      have p1_ := P1.out.c16
      have p2_ := P2.out.c4
      go_wp2_with fail
      refine (within_b B1.out _).mono ?_
      rintro e v2 ⟨rfl, bel⟩
      clear p1_
      clear p2_
      have HB' := Lib.hid (HB.out.trans (bel.mono HB.out.size))
      have P1' := Lib.hid (P1.out.below bel)
      have P2' := Lib.hid (P2.out.below bel)
      clear HB P1 P2
      have HB := Lib.hid HB'.out
      have P1 := Lib.hid P1'.out
      have P2 := Lib.hid P2'.out
      clear HB' P1' P2'
      clear bel
      cases b1
      · have HX := Lib.hid (show ¬ (X0 ≤ X1 ∧ X1 ≤ c.W - 1) from fun h => by have := B1.out.2 h; cases this)
        have HE := Lib.hid (show wcod c X0 Y0 X1 Y1 = 2 by rw [WC.out]; exact cod_no (fun h => by unfold WinOk at h; have := HX.out; have := KX0.out; have := KY0.out; omega))
        go_wp2
        go_ret
        exact ⟨by rw [HE.out]; rfl, HB.out⟩
      have p1_ := P1.out.c16
      have p2_ := P2.out.c4
      go_wp2_with fail
      refine (within_b B2.out _).mono ?_
      rintro e v3 ⟨rfl, bel⟩
      clear p1_
      clear p2_
      have HB' := Lib.hid (HB.out.trans (bel.mono HB.out.size))
      have P1' := Lib.hid (P1.out.below bel)
      have P2' := Lib.hid (P2.out.below bel)
      clear HB P1 P2
      have HB := Lib.hid HB'.out
      have P1 := Lib.hid P1'.out
      have P2 := Lib.hid P2'.out
      clear HB' P1' P2'
      clear bel
      have G1 := Lib.hid (B1.out.1 (by simp))
      cases b2
      · have HX := Lib.hid (show ¬ (0 ≤ Y1 ∧ Y1 ≤ c.H - 1) from fun h => by have := B2.out.2 h; cases this)
        have HE := Lib.hid (show wcod c X0 Y0 X1 Y1 = 2 by rw [WC.out]; exact cod_no (fun h => by unfold WinOk at h; have := HX.out; have := KX0.out; have := KY0.out; omega))
        go_wp2
        go_ret
        exact ⟨by rw [HE.out]; rfl, HB.out⟩
      have G2 := Lib.hid (B2.out.1 (by simp))
      have p2_ := P2.out.c4
      have hx9 : ¬ X0 < 0 := by omega
      by_cases hy9 : Y0 < 0
      · have g1 : decide (X0 < 0) = false := decide_eq_false hx9
        have g2 : decide (Y0 < 0) = true := decide_eq_true hy9
        have HX := Lib.hid hy9
        have HE := Lib.hid (show wcod c X0 Y0 X1 Y1 = 2 by rw [WC.out]; exact cod_no (fun h => by unfold WinOk at h; have := HX.out; have := KX0.out; have := KY0.out; omega))
        go_wp2
        go_ret
        exact ⟨by rw [HE.out]; rfl, HB.out⟩
      have HX9 := Lib.hid hx9
      have HY9 := Lib.hid hy9
      have g1 : decide (X0 < 0) = false := decide_eq_false HX9.out
      have g2 : decide (Y0 < 0) = false := decide_eq_false HY9.out
      have HE := Lib.hid (show wcod c X0 Y0 X1 Y1 = 0 by
        rw [WC.out]
        have k1 := G1.out
        have k2 := G2.out
        have k3 := KX0.out
        have k4 := KY0.out
        have k5 := HX9.out
        have k6 := HY9.out
        unfold Wi at k1 k2
        exact cod_yes ⟨⟨by omega, by omega, by omega⟩, by omega, by omega, by omega⟩)
      go_wp2
      go_ret
      exact ⟨by rw [HE.out]; rfl, HB.out⟩
    · have kY01 : ¬ Y0 ≤ 0 := hY0
      have kY02 : 0 < Y0 := by omega
      have KY0 := Lib.hid hY0
      clear hY0
      obtain ⟨b1, hb1⟩ := ex_bool (Wi X1 X0 (c.W - 1))
      obtain ⟨b2, hb2⟩ := ex_bool (Wi Y1 Y0 (c.H - 1))
      have B1 := Lib.hid hb1
      have B2 := Lib.hid hb2
      clear hb1 hb2
      have p1_ := P1.out.c16
      have p2_ := P2.out.c4
      go_wp2_with fail
      refine (within_b B1.out _).mono ?_
      rintro e v2 ⟨rfl, bel⟩
      clear p1_
      clear p2_
      have HB' := Lib.hid (HB.out.trans (bel.mono HB.out.size))
      have P1' := Lib.hid (P1.out.below bel)
      have P2' := Lib.hid (P2.out.below bel)
      clear HB P1 P2
      have HB := Lib.hid HB'.out
      have P1 := Lib.hid P1'.out
      have P2 := Lib.hid P2'.out
      clear HB' P1' P2'
      clear bel
      cases b1
      · have HX := Lib.hid (show ¬ (X0 ≤ X1 ∧ X1 ≤ c.W - 1) from fun h => by have := B1.out.2 h; cases this)
        have HE := Lib.hid (show wcod c X0 Y0 X1 Y1 = 2 by rw [WC.out]; exact cod_no (fun h => by unfold WinOk at h; have := HX.out; have := KX0.out; have := KY0.out; omega))
        go_wp2
        go_ret
        exact ⟨by rw [HE.out]; rfl, HB.out⟩
      have p1_ := P1.out.c16
      have p2_ := P2.out.c4
      go_wp2_with fail
      refine (within_b B2.out _).mono ?_
      rintro e v3 ⟨rfl, bel⟩
      clear p1_
      clear p2_
      have HB' := Lib.hid (HB.out.trans (bel.mono HB.out.size))
      have P1' := Lib.hid (P1.out.below bel)
      have P2' := Lib.hid (P2.out.below bel)
      clear HB P1 P2
      have HB := Lib.hid HB'.out
      have P1 := Lib.hid P1'.out
      have P2 := Lib.hid P2'.out
      clear HB' P1' P2'
      clear bel
      have G1 := Lib.hid (B1.out.1 (by simp))
      cases b2
      · have HX := Lib.hid (show ¬ (Y0 ≤ Y1 ∧ Y1 ≤ c.H - 1) from fun h => by have := B2.out.2 h; cases this)
        have HE := Lib.hid (show wcod c X0 Y0 X1 Y1 = 2 by rw [WC.out]; exact cod_no (fun h => by unfold WinOk at h; have := HX.out; have := KX0.out; have := KY0.out; omega))
        go_wp2
        go_ret
        exact ⟨by rw [HE.out]; rfl, HB.out⟩
      have G2 := Lib.hid (B2.out.1 (by simp))
      have p2_ := P2.out.c4
      have hx9 : ¬ X0 < 0 := by omega
      have hy9 : ¬ Y0 < 0 := by omega
      have HX9 := Lib.hid hx9
      have HY9 := Lib.hid hy9
      have g1 : decide (X0 < 0) = false := decide_eq_false HX9.out
      have g2 : decide (Y0 < 0) = false := decide_eq_false HY9.out
      have HE := Lib.hid (show wcod c X0 Y0 X1 Y1 = 0 by
        rw [WC.out]
        have k1 := G1.out
        have k2 := G2.out
        have k3 := KX0.out
        have k4 := KY0.out
        have k5 := HX9.out
        have k6 := HY9.out
        unfold Wi at k1 k2
        exact cod_yes ⟨⟨by omega, by omega, by omega⟩, by omega, by omega, by omega⟩)
      go_wp2
      go_ret
      exact ⟨by rw [HE.out]; rfl, HB.out⟩
theorem bld_sp3 (a b c d e f : Int) (w : World) : (Instr.build 110 #[(0, .agg #[.int .i64 a, .int .i64 b]), (1, .agg #[.int .i64 c, .int .i64 d]), (2, .agg #[.int .i64 e, .int .i64 f])]).run Tryd.prog w = .ok (.agg #[.int .i64 a, .int .i64 b, .int .i64 c, .int .i64 d, .int .i64 e, .int .i64 f]) w :=
  run_build w 110 _ #[.int .i64 a, .int .i64 b, .int .i64 c, .int .i64 d, .int .i64 e, .int .i64 f] (by kernel_rfl)
theorem zero_sp3 (w : World) : (zeroValue 110).run Tryd.prog w = .ok (.agg #[.int .i64 0, .int .i64 0, .int .i64 0, .int .i64 0, .int .i64 0, .int .i64 0]) w := by kernel_rfl

set_option maxRecDepth 100000 in
set_option maxHeartbeats 8000000 in
theorem spans_any (a b c d e f : Int) (w : World) : Calls Tryd.prog 37 #[.agg #[.int .i64 a, .int .i64 b, .int .i64 c, .int .i64 d, .int .i64 e, .int .i64 f]] w fun e' w' => e' = .returned (.agg #[.int .i64 a, .int .i64 d, .int .i64 b, .int .i64 e, .int .i64 c, .int .i64 f]) ∧ Below w.heap.size w w' := by
  have hb1 := bld_sp a d
  have hb2 := bld_sp b e
  have hb3 := bld_sp c f
  have hb9 := bld_sp3 a d b e c f
  have hz9 := zero_sp3
  have HB := Lib.hid (show Below w.heap.size w ((w.alloc (.cells #[.int .i64 a, .int .i64 b, .int .i64 c, .int .i64 d, .int .i64 e, .int .i64 f] 50)).alloc (.cells #[.int .i64 0, .int .i64 0, .int .i64 0, .int .i64 0, .int .i64 0, .int .i64 0] 110)) by
    repeat' (first | exact Below.refl _ _ | refine Below.alloc ?_ (by first | omega | (simp; done) | (simp; omega)) _))
  have P1 := Lib.hid ((hasBlk_new w 50 #[.int .i64 a, .int .i64 b, .int .i64 c, .int .i64 d, .int .i64 e, .int .i64 f]).alloc (.cells #[.int .i64 0, .int .i64 0, .int .i64 0, .int .i64 0, .int .i64 0, .int .i64 0] 110))
  have P2 := Lib.hid (show HasBlk ((w.alloc (.cells #[.int .i64 a, .int .i64 b, .int .i64 c, .int .i64 d, .int .i64 e, .int .i64 f] 50)).alloc (.cells #[.int .i64 0, .int .i64 0, .int .i64 0, .int .i64 0, .int .i64 0, .int .i64 0] 110)) (w.heap.size + 1) 110 #[.int .i64 0, .int .i64 0, .int .i64 0, .int .i64 0, .int .i64 0, .int .i64 0] by simpa using hasBlk_new (w.alloc (.cells #[.int .i64 a, .int .i64 b, .int .i64 c, .int .i64 d, .int .i64 e, .int .i64 f] 50)) 110 #[.int .i64 0, .int .i64 0, .int .i64 0, .int .i64 0, .int .i64 0, .int .i64 0])
  go_enter Tryd.func37, Tryd.ntmps37
  go_upto_region 1 with fail
  generalize ((w.alloc (.cells #[.int .i64 a, .int .i64 b, .int .i64 c, .int .i64 d, .int .i64 e, .int .i64 f] 50)).alloc (.cells #[.int .i64 0, .int .i64 0, .int .i64 0, .int .i64 0, .int .i64 0, .int .i64 0] 110)) = v0 at *
  have p1_ := P1.out.c6
  have p2_ := P2.out.f6
  go_wp2
  refine bodyPost_ret (v := .agg #[.int .i64 a, .int .i64 d, .int .i64 b, .int .i64 e, .int .i64 c, .int .i64 f]) (by simp [results, Tryd.results37, go_sem, *]) rfl ⟨rfl, ?_⟩
  exact Below.setCell (Below.setCell (Below.setCell (Below.setCell (Below.setCell (Below.setCell HB.out (by first | omega | (simp; done) | (simp; omega)) _) (by first | omega | (simp; done) | (simp; omega)) _) (by first | omega | (simp; done) | (simp; omega)) _) (by first | omega | (simp; done) | (simp; omega)) _) (by first | omega | (simp; done) | (simp; omega)) _) (by first | omega | (simp; done) | (simp; omega)) _
end Go.Proofs.YtemopgpcpjnmkaaDoor
